/- Proved: what the functions of the reference's line come to; the conditions stand in the statements. -/
import Derived.Test.YtediblifbfhahaaLineG
import Derived.Test.YtediblifbfhahaaLineRef
set_option linter.unusedVariables false
set_option linter.unusedSimpArgs false
namespace Go.Proofs.Ytediblifbfhahaa.Line
open Go Go.RowKit Go.Proofs.Ytediblifbfhahaa.Eng

set_option maxRecDepth 100000 in
set_option maxHeartbeats 4000000 in
theorem f29_has (gr : Nat) (cs : List Cel) (sq : List Int) (H0 : Hp) (m : Int) (w : World) (hR : RefS gr cs sq H0) (hcs : cs.length ≤ 16) (hat : At (H0) w) :
    Calls Try.prog 29 [.pointer (some ⟨gr, 0, none⟩), .int .i64 (m)].toArray w fun e w' => e = .returned (.bool (hasB cs.length m)) ∧ Below w.heap.size w w' := by
  obtain ⟨gL, cL, aS, gs, capS, Hs, rfl, hrow, hown⟩ := hR
  refine (calls_of (P := Try.prog) (n := 16) (w0 := w) (S := ids ([(gr, .cells (#[.slice (some ⟨gL, 0, none⟩) (cs.length) (cs.length), .slice (aS) (sq.length) (capS)]) 60 (0, 0)), (gL, .cells (cL) 63 (0, 0))] ++ (Hs))) (H := [(gr, .cells (#[.slice (some ⟨gL, 0, none⟩) (cs.length) (cs.length), .slice (aS) (sq.length) (capS)]) 60 (0, 0)), (gL, .cells (cL) 63 (0, 0))] ++ (Hs)) (T := fun v H => v = (.bool (hasB cs.length m)) ∧ ([(gr, .cells (#[.slice (some ⟨gL, 0, none⟩) (cs.length) (cs.length), .slice (aS) (sq.length) (capS)]) 60 (0, 0)), (gL, .cells (cL) 63 (0, 0))] ++ (Hs) : Hp).Sublist H) Try.func29 rfl Try.ntmps29 (Nat.le_of_ble_eq_true rfl) [.tmp 4] rfl hat.st ?_).mono fun e w' ⟨v, H', he, hs, hT, hsub⟩ => ⟨by rw [he, hT], St.same hat hs hsub⟩
  refine c_seq fun K1 hK1 => ?_
  refine c_region ?_
  refine o_y (v := .bool (false)) rfl rfl (y_assign rfl) ?_
  refine o_nil ?_
  refine hK1 _ _ ?_
  refine c_seq fun K2 hK2 => ?_
  refine c_region ?_
  refine o_y (v := .int .i64 (m)) rfl rfl (y_move rfl) ?_
  refine o_y (v := .bool (decide (0 ≤ m))) rfl rfl (y_geq rfl rfl rfl) ?_
  refine o_y (v := .bool (decide (0 ≤ m))) rfl rfl (y_move rfl) ?_
  cases hc1 : (decide (0 ≤ m) : Bool)
  ·
    have hc1' := of_decide_eq_false hc1
    -- way F
    refine o_guard (j := 2) (d := 7) (b := false) rfl rfl rfl (fun h => by cases h) rfl (fun _ => ?_)
    refine o_guard (j := 2) (d := 7) (b := false) rfl rfl rfl (fun h => by cases h) rfl (fun _ => ?_)
    refine o_guard (j := 2) (d := 7) (b := false) rfl rfl rfl (fun h => by cases h) rfl (fun _ => ?_)
    refine o_guard (j := 2) (d := 7) (b := false) rfl rfl rfl (fun h => by cases h) rfl (fun _ => ?_)
    refine o_guard (j := 2) (d := 7) (b := false) rfl rfl rfl (fun h => by cases h) rfl (fun _ => ?_)
    refine o_guard (j := 2) (d := 7) (b := false) rfl rfl rfl (fun h => by cases h) rfl (fun _ => ?_)
    refine o_guard (j := 2) (d := 7) (b := false) rfl rfl rfl (fun h => by cases h) rfl (fun _ => ?_)
    refine o_y (v := .bool (false)) rfl rfl (y_pick (b := false) rfl rfl) ?_
    refine o_y (v := .bool (false)) rfl rfl (y_assign rfl) ?_
    refine o_nil ?_
    refine hK2 _ _ ?_
    refine c_ret ?_
    refine fun w hw => ⟨[.bool (false)], ⟨rfl, trivial⟩, ?_⟩
    exact ⟨congrArg Value.bool (has_is (by simp; omega)).symm, ((((List.Sublist.refl _).cons_cons _).cons_cons _))⟩
    first | done | rfl
  ·
    have hc1' := of_decide_eq_true hc1
    -- way T
    refine o_guard (j := 2) (d := 7) (b := true) rfl rfl rfl (fun _ => ?_) rfl (fun h => by cases h)
    refine o_y (v := .int .i64 (m)) rfl rfl (y_move rfl) ?_
    refine o_guard (j := 2) (d := 7) (b := true) rfl rfl rfl (fun _ => ?_) rfl (fun h => by cases h)
    refine o_y (v := .pointer (some ⟨gr, 0, none⟩)) rfl rfl (y_move rfl) ?_
    refine o_guard (j := 2) (d := 7) (b := true) rfl rfl rfl (fun _ => ?_) rfl (fun h => by cases h)
    refine o_y (v := .pointer (some ⟨gr, 0, none⟩)) rfl rfl (y_nilCheck rfl) ?_
    refine o_guard (j := 2) (d := 7) (b := true) rfl rfl rfl (fun _ => ?_) rfl (fun h => by cases h)
    refine o_y (v := .pointer (some ⟨gr, 0, none⟩)) rfl rfl (y_fieldAddr (k := 0) rfl Try.underlying60 rfl rfl ⟨_, s57⟩ (by first | rfl | omega)) ?_
    refine o_guard (j := 2) (d := 7) (b := true) rfl rfl rfl (fun _ => ?_) rfl (fun h => by cases h)
    refine o_y (v := .slice (some ⟨gL, 0, none⟩) (cs.length) (cs.length)) rfl rfl (y_load rfl Try.underlying57 rfl (Rd.one (k := 0) rfl rfl)) ?_
    refine o_guard (j := 2) (d := 7) (b := true) rfl rfl rfl (fun _ => ?_) rfl (fun h => by cases h)
    refine o_y (v := .int .i64 (((cs.length : Nat) : Int))) rfl rfl (y_len rfl Try.underlying57) ?_
    refine o_guard (j := 2) (d := 7) (b := true) rfl rfl rfl (fun _ => ?_) rfl (fun h => by cases h)
    refine o_y (v := .bool (decide (m < ((cs.length : Nat) : Int)))) rfl rfl (y_lss rfl rfl rfl) ?_
    refine o_y (v := .bool (decide (m < ((cs.length : Nat) : Int)))) rfl rfl (y_pick (b := true) rfl rfl) ?_
    refine o_y (v := .bool (decide (m < ((cs.length : Nat) : Int)))) rfl rfl (y_assign rfl) ?_
    refine o_nil ?_
    refine hK2 _ _ ?_
    refine c_ret ?_
    refine fun w hw => ⟨[.bool (decide (m < ((cs.length : Nat) : Int)))], ⟨rfl, trivial⟩, ?_⟩
    exact ⟨congrArg Value.bool (has_is (by simp; omega)).symm, ((((List.Sublist.refl _).cons_cons _).cons_cons _))⟩
    first | done | rfl

set_option maxRecDepth 100000 in
set_option maxHeartbeats 4000000 in
theorem f17_RNew (n : Nat) (w : World) (h1 : 1 ≤ n) (h16 : n ≤ 16) :
    Calls Try.prog 17 [.int .i64 (((n : Nat) : Int))].toArray w fun e w' => ∃ v H', e = .returned v ∧ St w (fun _ => False) H' w' ∧ (fun v H => ∃ gr, v = .tuple #[.pointer (some ⟨gr, 0, none⟩), .int .i64 0] ∧ RefS gr (List.replicate n cel0) [] H) v H' := by
  refine (calls_of (P := Try.prog) (n := 14) (w0 := w) (S := fun _ => False) (H := []) (T := fun v H => ∃ H', H'.Sublist H ∧ (fun v H => ∃ gr, v = .tuple #[.pointer (some ⟨gr, 0, none⟩), .int .i64 0] ∧ RefS gr (List.replicate n cel0) [] H) v H') Try.func17 rfl Try.ntmps17 (Nat.le_of_ble_eq_true rfl) [.tmp 2, .tmp 3] rfl (St.nil w _) ?_).mono fun e w' ⟨v, H', he, hs, H2, hsub, hT⟩ => ⟨v, H2, he, hs.drop hsub, hT⟩
  refine c_seq fun K1 hK1 => ?_
  refine c_region ?_
  refine o_y (v := .pointer none) rfl rfl (y_assign rfl) ?_
  refine o_y (v := .int .i64 (0)) rfl rfl (y_assign rfl) ?_
  refine o_nil ?_
  refine hK1 _ _ ?_
  refine c_seq fun K2 hK2 => ?_
  refine c_seq fun K3 hK3 => ?_
  refine c_region ?_
  refine o_y (v := .int .i64 (((n : Nat) : Int))) rfl rfl (y_move rfl) ?_
  refine o_y (v := .bool (false)) rfl rfl (y_bool (y_lss rfl rfl rfl) (decide_eq_false (by omega))) ?_
  refine o_y (v := .bool (false)) rfl rfl (y_move rfl) ?_
  refine o_guard (j := 2) (d := 6) (b := false) rfl rfl rfl (fun _ => ?_) rfl (fun h => by cases h)
  refine o_y (v := .int .i64 (((n : Nat) : Int))) rfl rfl (y_move rfl) ?_
  refine o_guard (j := 2) (d := 6) (b := false) rfl rfl rfl (fun _ => ?_) rfl (fun h => by cases h)
  refine o_y (v := .bool (false)) rfl rfl (y_bool (y_gtr rfl rfl rfl) (decide_eq_false (by omega))) ?_
  refine o_y (v := .bool (false)) rfl rfl (y_pick (b := false) rfl rfl) ?_
  refine o_nil ?_
  refine hK3 _ _ ?_
  refine c_cond (t := false) rfl (fun h => by cases h) (fun _ => ?_)
  refine c_skip ?_
  refine hK2 _ _ ?_
  refine c_seq fun K4 hK4 => ?_
  refine c_region ?_
  refine o_y (v := .int .i64 (((n : Nat) : Int))) rfl rfl (y_move rfl) ?_
  refine o_make SL57 (cel0) n rfl zr63 rfl rfl (by first | (simp [maxLen]; done) | (simp [maxLen]; omega)) (by omega) fun g1 cg1 hrg1 => ?_
  refine o_y (v := .agg (#[.slice (some ⟨g1, 0, none⟩) (n) (n), .slice none 0 0])) rfl rfl (y_build rfl (by kernel_rfl)) ?_
  refine o_box (v := .agg (#[.slice (some ⟨g1, 0, none⟩) (n) (n), .slice none 0 0])) rfl rfl fun g2 => ?_
  refine o_y (v := .pointer (some ⟨g2, 0, none⟩)) rfl rfl (y_assign rfl) ?_
  refine o_y (v := .int .i64 (0)) rfl rfl (y_assign rfl) ?_
  refine o_nil ?_
  refine hK4 _ _ ?_
  refine c_ret ?_
  refine fun w hw => ⟨[.pointer (some ⟨g2, 0, none⟩), .int .i64 (0)], ⟨rfl, rfl, trivial⟩, ?_⟩
  have hl : (List.replicate n cel0).length = n := List.length_replicate
  exact ⟨_, ((List.Sublist.slnil.cons_cons _).cons_cons _), g2, rfl, g1, _, none, 0, 0, [], by rw [hl]; rfl, by rw [hl]; exact hrg1, OwnV.none'⟩
  first | done | rfl

set_option maxRecDepth 100000 in
set_option maxHeartbeats 4000000 in
theorem f17_RNewBad (n : Int) (w : World) (hn : n < 1 ∨ 16 < n) :
    Calls Try.prog 17 [.int .i64 (n)].toArray w fun e w' => e = .returned (.tuple #[.pointer none, .int .i64 (2)]) ∧ Below w.heap.size w w' := by
  refine (calls_of (P := Try.prog) (n := 14) (w0 := w) (S := fun _ => False) (H := []) (T := fun v _ => v = (.tuple #[.pointer none, .int .i64 (2)])) Try.func17 rfl Try.ntmps17 (Nat.le_of_ble_eq_true rfl) [.tmp 2, .tmp 3] rfl (St.nil w _) ?_).mono fun e w' ⟨v, H', he, hs, hT⟩ => ⟨by rw [he, hT], hs.below⟩
  refine c_seq fun K1 hK1 => ?_
  refine c_region ?_
  refine o_y (v := .pointer none) rfl rfl (y_assign rfl) ?_
  refine o_y (v := .int .i64 (0)) rfl rfl (y_assign rfl) ?_
  refine o_nil ?_
  refine hK1 _ _ ?_
  refine c_seq fun K2 hK2 => ?_
  refine c_seq fun K3 hK3 => ?_
  refine c_region ?_
  refine o_y (v := .int .i64 (n)) rfl rfl (y_move rfl) ?_
  refine o_y (v := .bool (decide (n < 1))) rfl rfl (y_lss rfl rfl rfl) ?_
  refine o_y (v := .bool (decide (n < 1))) rfl rfl (y_move rfl) ?_
  cases hc1 : (decide (n < 1) : Bool)
  ·
    have hc1' := of_decide_eq_false hc1
    -- way F
    refine o_guard (j := 2) (d := 6) (b := false) rfl rfl rfl (fun _ => ?_) rfl (fun h => by cases h)
    refine o_y (v := .int .i64 (n)) rfl rfl (y_move rfl) ?_
    refine o_guard (j := 2) (d := 6) (b := false) rfl rfl rfl (fun _ => ?_) rfl (fun h => by cases h)
    refine o_y (v := .bool (decide (16 < n))) rfl rfl (y_gtr rfl rfl rfl) ?_
    refine o_y (v := .bool (decide (16 < n))) rfl rfl (y_pick (b := false) rfl rfl) ?_
    refine o_nil ?_
    refine hK3 _ _ ?_
    refine c_cond (t := decide (16 < n)) rfl (fun hc2 => ?_) (fun hc2 => ?_)
    ·
      replace hc2 := of_decide_eq_true hc2
      -- way FT
      refine c_seq fun K4 hK4 => ?_
      refine c_region ?_
      refine o_y (v := .pointer none) rfl rfl (y_assign rfl) ?_
      refine o_y (v := .int .i64 (2)) rfl rfl (y_assign rfl) ?_
      refine o_nil ?_
      refine hK4 _ _ ?_
      refine c_ret ?_
      refine fun w hw => ⟨[.pointer none, .int .i64 (2)], ⟨rfl, rfl, trivial⟩, ?_⟩
      exact rfl
    ·
      replace hc2 := of_decide_eq_false hc2
      -- way FF
      exfalso; omega
  ·
    have hc1' := of_decide_eq_true hc1
    -- way T
    refine o_guard (j := 2) (d := 6) (b := true) rfl rfl rfl (fun h => by cases h) rfl (fun _ => ?_)
    refine o_guard (j := 2) (d := 6) (b := true) rfl rfl rfl (fun h => by cases h) rfl (fun _ => ?_)
    refine o_y (v := .bool (true)) rfl rfl (y_pick (b := true) rfl rfl) ?_
    refine o_nil ?_
    refine hK3 _ _ ?_
    refine c_cond (t := true) rfl (fun _ => ?_) (fun h => by cases h)
    refine c_seq fun K5 hK5 => ?_
    refine c_region ?_
    refine o_y (v := .pointer none) rfl rfl (y_assign rfl) ?_
    refine o_y (v := .int .i64 (2)) rfl rfl (y_assign rfl) ?_
    refine o_nil ?_
    refine hK5 _ _ ?_
    refine c_ret ?_
    refine fun w hw => ⟨[.pointer none, .int .i64 (2)], ⟨rfl, rfl, trivial⟩, ?_⟩
    exact rfl

set_option maxRecDepth 100000 in
set_option maxHeartbeats 4000000 in
theorem f22_RLearn (gr : Nat) (cs : List Cel) (sq : List Int) (H0 : Hp) (m : Int) (b : Blk) (w : World) (hR : RefS gr cs sq H0) (hcs : cs.length ≤ 16) (hat : At (H0) w) :
    Calls Try.prog 22 [.pointer (some ⟨gr, 0, none⟩), .int .i64 (m), .agg (bv (b))].toArray w fun e w' => ∃ v H', e = .returned v ∧ St w (ids (H0)) H' w' ∧ (fun v H => v = .int .i64 (errC cs.length m) ∧ RefS gr (lrnC cs m b) (sq) H) v H' := by
  obtain ⟨gL, cL, aS, gs, capS, Hs, rfl, hrow, hown⟩ := hR
  refine (calls_of (P := Try.prog) (n := 28) (w0 := w) (S := ids ([(gr, .cells (#[.slice (some ⟨gL, 0, none⟩) (cs.length) (cs.length), .slice (aS) (sq.length) (capS)]) 60 (0, 0)), (gL, .cells (cL) 63 (0, 0))] ++ (Hs))) (H := [(gr, .cells (#[.slice (some ⟨gL, 0, none⟩) (cs.length) (cs.length), .slice (aS) (sq.length) (capS)]) 60 (0, 0)), (gL, .cells (cL) 63 (0, 0))] ++ (Hs)) (T := fun v H => ∃ H1, (fun v H => v = .int .i64 (errC cs.length m) ∧ RefS gr (lrnC cs m b) (sq) H) v H1 ∧ (H1 : Hp).Sublist H) Try.func22 rfl Try.ntmps22 (Nat.le_of_ble_eq_true rfl) [.tmp 6] rfl hat.st ?_).mono fun e w' ⟨v, H', he, hs, H1, hT, hsub⟩ => ⟨v, H1, he, hs.drop hsub, hT⟩
  refine c_seq fun K1 hK1 => ?_
  refine c_region ?_
  refine o_box (v := .agg (bv (b))) rfl rfl fun g1 => ?_
  refine o_y (v := .int .i64 (0)) rfl rfl (y_assign rfl) ?_
  refine o_nil ?_
  refine hK1 _ _ ?_
  refine c_seq fun K2 hK2 => ?_
  refine c_seq fun K3 hK3 => ?_
  refine c_region ?_
  refine o_y (v := .pointer (some ⟨gr, 0, none⟩)) rfl rfl (y_move rfl) ?_
  refine o_y (v := .int .i64 (m)) rfl rfl (y_move rfl) ?_
  refine o_y (v := .bool (hasB cs.length (m))) rfl rfl (y_call (vs := [.pointer (some ⟨gr, 0, none⟩), .int .i64 (m)]) b29 rfl (fun w hw => f29_has gr cs sq _ (m) w ⟨gL, _, _, _, _, _, rfl, hrow, hown⟩ hcs (hw.sat ((((List.Sublist.refl _).cons_cons _).cons_cons _).cons _)))) ?_
  refine o_y (v := .bool (!(hasB cs.length (m)))) rfl rfl (y_not rfl rfl) ?_
  refine o_nil ?_
  refine hK3 _ _ ?_
  refine c_cond (t := !(hasB cs.length (m))) rfl (fun hc1 => ?_) (fun hc1 => ?_)
  ·
    try have hc1' : (hasB cs.length (m)) = false := by simpa using hc1
    -- way T
    refine c_seq fun K4 hK4 => ?_
    refine c_region ?_
    refine o_y (v := .int .i64 (2)) rfl rfl (y_assign rfl) ?_
    refine o_nil ?_
    refine hK4 _ _ ?_
    refine c_ret ?_
    refine fun w hw => ⟨[.int .i64 (2)], ⟨rfl, trivial⟩, ?_⟩
    exact ⟨_, ⟨ie (errC_f hc1').symm, refs_eq (lrnC_f hc1') (rfl) ⟨gL, _, _, _, _, _, by first | rfl | (simp [cln_len, List.length_set]; done) | (simp only [List.length_append, List.length_set, cln_len]; rfl), by have h := hrow; first | exact h | (simp only [cln_len, List.length_set]; exact h), hown⟩⟩, ((((List.Sublist.refl _).cons_cons _).cons_cons _).cons _)⟩
    first | done | rfl
  ·
    try have hc1' : (hasB cs.length (m)) = true := by simpa using hc1
    -- way F
    have hb := has_t hc1'
    refine c_skip ?_
    refine hK2 _ _ ?_
    refine c_seq fun K5 hK5 => ?_
    refine c_seq fun K6 hK6 => ?_
    refine c_region ?_
    refine o_y (v := .pointer (some ⟨gr, 0, none⟩)) rfl rfl (y_move rfl) ?_
    refine o_y (v := .pointer (some ⟨gr, 0, none⟩)) rfl rfl (y_nilCheck rfl) ?_
    refine o_y (v := .pointer (some ⟨gr, 0, none⟩)) rfl rfl (y_fieldAddr (k := 0) rfl Try.underlying60 rfl rfl ⟨_, s57⟩ (by first | rfl | omega)) ?_
    refine o_y (v := .slice (some ⟨gL, 0, none⟩) (cs.length) (cs.length)) rfl rfl (y_load rfl Try.underlying57 rfl (Rd.one (k := 1) rfl rfl)) ?_
    refine o_y (v := .int .i64 (m)) rfl rfl (y_move rfl) ?_
    refine o_y (v := .pointer (some ⟨gL, 0 + ((m).toNat) * 66, none⟩)) rfl rfl (y_ixO ((m).toNat) rfl rfl rfl Try.underlying57 s63 (by omega) (by first | omega | (simp; done) | (simp; omega))) ?_
    refine o_y (v := .pointer (some ⟨gL, 0 + ((m).toNat) * 66 + 0, none⟩)) rfl rfl (y_fieldAddr (k := 0) rfl Try.underlying63 rfl rfl ⟨_, s4⟩ (by first | rfl | omega)) ?_
    refine o_y (v := .bool (((cs).getD ((m).toNat) cel0).k)) rfl rfl (y_load rfl Try.underlying4 rfl (Rd.sub1 (k := 0) (SlG.rd' (SlG.row (k := 2) rfl hrow) (at_getD (by first | omega | (simp; done) | (simp; omega)))) (by show _ + _ * 66 + _ = _; omega) rfl)) ?_
    refine o_y (v := .bool (!(((cs).getD ((m).toNat) cel0).k))) rfl rfl (y_not rfl rfl) ?_
    refine o_nil ?_
    refine hK6 _ _ ?_
    refine c_cond (t := !(((cs).getD ((m).toNat) cel0).k)) rfl (fun hc2 => ?_) (fun hc2 => ?_)
    ·
      try have hc2' : (((cs).getD ((m).toNat) cel0).k) = false := by simpa using hc2
      -- way FT
      refine c_draw 8 (by kernel_rfl) (by kernel_rfl) ?_
      refine q_y (v := .pointer (some ⟨gr, 0, none⟩)) rfl (y_move rfl) ?_
      refine q_y (v := .pointer (some ⟨gr, 0, none⟩)) rfl (y_nilCheck rfl) ?_
      refine q_y (v := .pointer (some ⟨gr, 0, none⟩)) rfl (y_fieldAddr (k := 0) rfl Try.underlying60 rfl rfl ⟨_, s57⟩ (by first | rfl | omega)) ?_
      refine q_y (v := .slice (some ⟨gL, 0, none⟩) (cs.length) (cs.length)) rfl (y_load rfl Try.underlying57 rfl (Rd.one (k := 1) rfl rfl)) ?_
      refine q_y (v := .int .i64 (m)) rfl (y_move rfl) ?_
      refine q_y (v := .agg (bv (b))) rfl (y_loadB T23 rfl (Rd.whole (k := 0) rfl)) ?_
      refine q_y (v := .agg (Cel.arr (⟨true, false, b⟩))) rfl (y_build (by rw [Array.toList_map]; rfl) (bld02 true (b))) ?_
      refine q_y (v := .pointer (some ⟨gL, 0 + ((m).toNat) * 66, none⟩)) rfl (y_ixO ((m).toNat) rfl rfl rfl Try.underlying57 s63 (by omega) (by first | omega | (simp; done) | (simp; omega))) ?_
      refine q_nil ?_
      refine o_storeRow (E := eCel) (u := ⟨true, false, b⟩) 2 ((m).toNat) rfl (by show _ = _ * 66; omega) rfl (Cel.cells _) s63 rfl hrow (by first | omega | (simp; done) | (simp; omega)) fun cq2 hrq2 => ?_
      refine o_nil ?_
      refine hK5 _ _ ?_
      refine c_seq fun K7 hK7 => ?_
      refine c_region ?_
      refine o_y (v := .int .i64 (0)) rfl rfl (y_assign rfl) ?_
      refine o_nil ?_
      refine hK7 _ _ ?_
      refine c_ret ?_
      refine fun w hw => ⟨[.int .i64 (0)], ⟨rfl, trivial⟩, ?_⟩
      exact ⟨_, ⟨ie (errC_t hc1').symm, refs_eq (lrnC_t hc1' hc2') (rfl) ⟨gL, _, _, _, _, _, by first | rfl | (simp [cln_len, List.length_set]; done) | (simp only [List.length_append, List.length_set, cln_len]; rfl), by have h := hrq2; first | exact h | (simp only [cln_len, List.length_set]; exact h), hown⟩⟩, ((((List.Sublist.refl _).cons_cons _).cons_cons _).cons _)⟩
      first | done | rfl
    ·
      try have hc2' : (((cs).getD ((m).toNat) cel0).k) = true := by simpa using hc2
      -- way FF
      refine c_skip ?_
      refine hK5 _ _ ?_
      refine c_seq fun K8 hK8 => ?_
      refine c_region ?_
      refine o_y (v := .int .i64 (0)) rfl rfl (y_assign rfl) ?_
      refine o_nil ?_
      refine hK8 _ _ ?_
      refine c_ret ?_
      refine fun w hw => ⟨[.int .i64 (0)], ⟨rfl, trivial⟩, ?_⟩
      exact ⟨_, ⟨ie (errC_t hc1').symm, refs_eq (lrnC_k (by simpa using hc2)) (rfl) ⟨gL, _, _, _, _, _, by first | rfl | (simp [cln_len, List.length_set]; done) | (simp only [List.length_append, List.length_set, cln_len]; rfl), by have h := hrow; first | exact h | (simp only [cln_len, List.length_set]; exact h), hown⟩⟩, ((((List.Sublist.refl _).cons_cons _).cons_cons _).cons _)⟩
      first | done | rfl

set_option maxRecDepth 100000 in
set_option maxHeartbeats 4000000 in
theorem f23_RSet (gr : Nat) (cs : List Cel) (sq : List Int) (H0 : Hp) (m : Int) (b : Blk) (q : Int) (w : World) (hR : RefS gr cs sq H0) (hcs : cs.length ≤ 16) (hsq : sq.length ≤ 1000) (hat : At (H0) w) :
    Calls Try.prog 23 [.pointer (some ⟨gr, 0, none⟩), .int .i64 (m), .agg (bv (b)), .int .u64 (q)].toArray w fun e w' => ∃ v H', e = .returned v ∧ St w (ids (H0)) H' w' ∧ (fun v H => v = .int .i64 (setEC cs.length m q) ∧ RefS gr (setC cs m b q) (setQ cs.length sq m q) H) v H' := by
  obtain ⟨gL, cL, aS, gs, capS, Hs, rfl, hrow, hown⟩ := hR
  refine (calls_of (P := Try.prog) (n := 35) (w0 := w) (S := ids ([(gr, .cells (#[.slice (some ⟨gL, 0, none⟩) (cs.length) (cs.length), .slice (aS) (sq.length) (capS)]) 60 (0, 0)), (gL, .cells (cL) 63 (0, 0))] ++ (Hs))) (H := [(gr, .cells (#[.slice (some ⟨gL, 0, none⟩) (cs.length) (cs.length), .slice (aS) (sq.length) (capS)]) 60 (0, 0)), (gL, .cells (cL) 63 (0, 0))] ++ (Hs)) (T := fun v H => ∃ H1, (fun v H => v = .int .i64 (setEC cs.length m q) ∧ RefS gr (setC cs m b q) (setQ cs.length sq m q) H) v H1 ∧ (H1 : Hp).Sublist H) Try.func23 rfl Try.ntmps23 (Nat.le_of_ble_eq_true rfl) [.tmp 8] rfl hat.st ?_).mono fun e w' ⟨v, H', he, hs, H1, hT, hsub⟩ => ⟨v, H1, he, hs.drop hsub, hT⟩
  refine c_seq fun K1 hK1 => ?_
  refine c_region ?_
  refine o_box (v := .agg (bv (b))) rfl rfl fun g1 => ?_
  refine o_y (v := .int .i64 (0)) rfl rfl (y_assign rfl) ?_
  refine o_nil ?_
  refine hK1 _ _ ?_
  refine c_seq fun K2 hK2 => ?_
  refine c_seq fun K3 hK3 => ?_
  refine c_region ?_
  refine o_y (v := .pointer (some ⟨gr, 0, none⟩)) rfl rfl (y_move rfl) ?_
  refine o_y (v := .int .i64 (m)) rfl rfl (y_move rfl) ?_
  refine o_y (v := .bool (hasB cs.length (m))) rfl rfl (y_call (vs := [.pointer (some ⟨gr, 0, none⟩), .int .i64 (m)]) b29 rfl (fun w hw => f29_has gr cs sq _ (m) w ⟨gL, _, _, _, _, _, rfl, hrow, hown⟩ hcs (hw.sat ((((List.Sublist.refl _).cons_cons _).cons_cons _).cons _)))) ?_
  refine o_y (v := .bool (!(hasB cs.length (m)))) rfl rfl (y_not rfl rfl) ?_
  refine o_y (v := .bool (!(hasB cs.length (m)))) rfl rfl (y_move rfl) ?_
  cases hc1 : (!(hasB cs.length (m)) : Bool)
  ·
    try have hc1' : (hasB cs.length (m)) = true := by simpa using hc1
    -- way F
    have hb := has_t hc1'
    refine o_guard (j := 4) (d := 13) (b := false) rfl rfl rfl (fun _ => ?_) rfl (fun h => by cases h)
    refine o_y (v := .int .u64 (q)) rfl rfl (y_move rfl) ?_
    refine o_guard (j := 4) (d := 13) (b := false) rfl rfl rfl (fun _ => ?_) rfl (fun h => by cases h)
    refine o_y (v := .bool (decide (q = 0))) rfl rfl (y_eql rfl rfl rfl) ?_
    refine o_y (v := .bool (decide (q = 0))) rfl rfl (y_pick (b := false) rfl rfl) ?_
    refine o_nil ?_
    refine hK3 _ _ ?_
    refine c_cond (t := decide (q = 0)) rfl (fun hc2 => ?_) (fun hc2 => ?_)
    ·
      replace hc2 := of_decide_eq_true hc2
      -- way FT
      refine c_seq fun K4 hK4 => ?_
      refine c_region ?_
      refine o_y (v := .int .i64 (2)) rfl rfl (y_assign rfl) ?_
      refine o_nil ?_
      refine hK4 _ _ ?_
      refine c_ret ?_
      refine fun w hw => ⟨[.int .i64 (2)], ⟨rfl, trivial⟩, ?_⟩
      exact ⟨_, ⟨ie (setEC_q hc2).symm, refs_eq (setC_no (setEC_q hc2)) (setQ_no (setEC_q hc2)) ⟨gL, _, _, _, _, _, by first | rfl | (simp [cln_len, List.length_set]; done) | (simp only [List.length_append, List.length_set, cln_len]; rfl), by have h := hrow; first | exact h | (simp only [cln_len, List.length_set]; exact h), hown⟩⟩, ((((List.Sublist.refl _).cons_cons _).cons_cons _).cons _)⟩
      first | done | rfl
    ·
      replace hc2 := of_decide_eq_false hc2
      -- way FF
      refine c_skip ?_
      refine hK2 _ _ ?_
      refine c_seq fun K5 hK5 => ?_
      refine c_draw 8 (by kernel_rfl) (by kernel_rfl) ?_
      refine q_y (v := .pointer (some ⟨gr, 0, none⟩)) rfl (y_move rfl) ?_
      refine q_y (v := .pointer (some ⟨gr, 0, none⟩)) rfl (y_nilCheck rfl) ?_
      refine q_y (v := .pointer (some ⟨gr, 0, none⟩)) rfl (y_fieldAddr (k := 0) rfl Try.underlying60 rfl rfl ⟨_, s57⟩ (by first | rfl | omega)) ?_
      refine q_y (v := .slice (some ⟨gL, 0, none⟩) (cs.length) (cs.length)) rfl (y_load rfl Try.underlying57 rfl (Rd.one (k := 1) rfl rfl)) ?_
      refine q_y (v := .int .i64 (m)) rfl (y_move rfl) ?_
      refine q_y (v := .agg (bv (b))) rfl (y_loadB T23 rfl (Rd.whole (k := 0) rfl)) ?_
      refine q_y (v := .agg (Cel.arr (⟨true, true, b⟩))) rfl (y_build (by rw [Array.toList_map]; rfl) (bld true true (b))) ?_
      refine q_y (v := .pointer (some ⟨gL, 0 + ((m).toNat) * 66, none⟩)) rfl (y_ixO ((m).toNat) rfl rfl rfl Try.underlying57 s63 (by omega) (by first | omega | (simp; done) | (simp; omega))) ?_
      refine q_nil ?_
      refine o_storeRow (E := eCel) (u := ⟨true, true, b⟩) 2 ((m).toNat) rfl (by show _ = _ * 66; omega) rfl (Cel.cells _) s63 rfl hrow (by first | omega | (simp; done) | (simp; omega)) fun cq2 hrq2 => ?_
      refine o_nil ?_
      refine hK5 _ _ ?_
      refine c_seq fun K6 hK6 => ?_
      refine c_region ?_
      refine o_y (v := .pointer (some ⟨gr, 0, none⟩)) rfl rfl (y_move rfl) ?_
      refine o_y (v := .pointer (some ⟨gr, 0, none⟩)) rfl rfl (y_move rfl) ?_
      refine o_y (v := .pointer (some ⟨gr, 0, none⟩)) rfl rfl (y_nilCheck rfl) ?_
      refine o_y (v := .pointer (some ⟨gr, 1, none⟩)) rfl rfl (y_fieldAddr (k := 1) rfl Try.underlying60 rfl rfl ⟨_, s58⟩ (by first | rfl | omega)) ?_
      refine o_y (v := .slice (aS) (sq.length) (capS)) rfl rfl (y_load rfl Try.underlying58 rfl (Rd.one (k := 1) rfl rfl)) ?_
      refine o_y (v := .int .u64 (q)) rfl rfl (y_move rfl) ?_
      refine o_buildRow SL58 ([(q)] : List Int) (fun x => .int .u64 x) (fun _ => rfl) rfl rfl (by rw [Array.toList_map]; rfl) (by simp) (by simp [eU64]) fun g3 cg3 hrg3 => ?_
      refine o_appendV SL58 ([(g3, .cells (cg3) 24 (0, 0)), (g1, .cells (bv (b)) 23 (0, 0)), (gr, .cells (#[.slice (some ⟨gL, 0, none⟩) (cs.length) (cs.length), .slice (aS) (sq.length) (capS)]) 60 (0, 0)), (gL, .cells (cq2) 63 (0, 0))]) (fun Hy => [(g3, .cells (cg3) 24 (0, 0)), (g1, .cells (bv (b)) 23 (0, 0)), (gr, .cells (#[.slice (some ⟨gL, 0, none⟩) (cs.length) (cs.length), .slice (aS) (sq.length) (capS)]) 60 (0, 0)), (gL, .cells (cq2) 63 (0, 0))] ++ (Hy)) rfl (fun Hy => by have h := List.perm_append_comm (l₁ := ([(g3, .cells (cg3) 24 (0, 0)), (g1, .cells (bv (b)) 23 (0, 0)), (gr, .cells (#[.slice (some ⟨gL, 0, none⟩) (cs.length) (cs.length), .slice (aS) (sq.length) (capS)]) 60 (0, 0)), (gL, .cells (cq2) 63 (0, 0))] : Hp)) (l₂ := Hy); first | exact h | simpa [Value.cells] using h) (by have h := List.perm_append_comm_assoc ([(g3, .cells (cg3) 24 (0, 0)), (g1, .cells (bv (b)) 23 (0, 0)), (gr, .cells (#[.slice (some ⟨gL, 0, none⟩) (cs.length) (cs.length), .slice (aS) (sq.length) (capS)]) 60 (0, 0)), (gL, .cells (cq2) 63 (0, 0))] : Hp) Hs ([] : Hp); first | exact h | simpa [Value.cells] using h) hown rfl (by first | omega | (simp; done) | (simp; omega)) rfl (by first | omega | (simp; done) | (simp; omega)) (SlG.row (k := 0) rfl hrg3) (by simp only [maxLen] <;> first | omega | (simp; done) | (simp; omega)) (by first | omega | (simp; done) | (simp; omega)) fun ap5 gp5 capp5 Hp5 hvp5 => ?_
      refine o_y (v := .pointer (some ⟨gr, 0, none⟩)) rfl rfl (y_nilCheck rfl) ?_
      refine o_y (v := .pointer (some ⟨gr, 1, none⟩)) rfl rfl (y_fieldAddr (k := 1) rfl Try.underlying60 rfl rfl ⟨_, s58⟩ (by first | rfl | omega)) ?_
      refine o_storeC (H' := [(g3, .cells (cg3) 24 (0, 0)), (g1, .cells (bv (b)) 23 (0, 0)), (gr, .cells (#[.slice (some ⟨gL, 0, none⟩) (cs.length) (cs.length), .slice (ap5) ((sq.length) + 1) (capp5)]) 60 (0, 0)), (gL, .cells (cq2) 63 (0, 0))] ++ (Hp5)) 2 rfl rfl rfl rfl rfl s58 (Nat.le_of_ble_eq_true rfl) rfl rfl ?_
      refine o_nil ?_
      refine hK6 _ _ ?_
      refine c_seq fun K7 hK7 => ?_
      refine c_region ?_
      refine o_y (v := .int .i64 (0)) rfl rfl (y_assign rfl) ?_
      refine o_nil ?_
      refine hK7 _ _ ?_
      refine c_ret ?_
      refine fun w hw => ⟨[.int .i64 (0)], ⟨rfl, trivial⟩, ?_⟩
      exact ⟨_, ⟨ie (setEC_t hc1' hc2).symm, refs_eq (setC_is (setEC_t hc1' hc2)) (setQ_is (setEC_t hc1' hc2)) ⟨gL, _, _, _, _, _, by first | rfl | (simp [cln_len, List.length_set]; done) | (simp only [List.length_append, List.length_set, cln_len]; rfl), by have h := hrq2; first | exact h | (simp only [cln_len, List.length_set]; exact h), hvp5⟩⟩, (((((List.Sublist.refl _).cons_cons _).cons_cons _).cons _).cons _)⟩
      first | done | rfl
  ·
    try have hc1' : (hasB cs.length (m)) = false := by simpa using hc1
    -- way T
    refine o_guard (j := 4) (d := 13) (b := true) rfl rfl rfl (fun h => by cases h) rfl (fun _ => ?_)
    refine o_guard (j := 4) (d := 13) (b := true) rfl rfl rfl (fun h => by cases h) rfl (fun _ => ?_)
    refine o_y (v := .bool (true)) rfl rfl (y_pick (b := true) rfl rfl) ?_
    refine o_nil ?_
    refine hK3 _ _ ?_
    refine c_cond (t := true) rfl (fun _ => ?_) (fun h => by cases h)
    refine c_seq fun K8 hK8 => ?_
    refine c_region ?_
    refine o_y (v := .int .i64 (2)) rfl rfl (y_assign rfl) ?_
    refine o_nil ?_
    refine hK8 _ _ ?_
    refine c_ret ?_
    refine fun w hw => ⟨[.int .i64 (2)], ⟨rfl, trivial⟩, ?_⟩
    exact ⟨_, ⟨ie (setEC_f hc1').symm, refs_eq (setC_no (setEC_f hc1')) (setQ_no (setEC_f hc1')) ⟨gL, _, _, _, _, _, by first | rfl | (simp [cln_len, List.length_set]; done) | (simp only [List.length_append, List.length_set, cln_len]; rfl), by have h := hrow; first | exact h | (simp only [cln_len, List.length_set]; exact h), hown⟩⟩, ((((List.Sublist.refl _).cons_cons _).cons_cons _).cons _)⟩
    first | done | rfl

set_option maxRecDepth 100000 in
set_option maxHeartbeats 4000000 in
theorem f24_RForget (gr : Nat) (cs : List Cel) (sq : List Int) (H0 : Hp) (m : Int) (w : World) (hR : RefS gr cs sq H0) (hcs : cs.length ≤ 16) (hat : At (H0) w) :
    Calls Try.prog 24 [.pointer (some ⟨gr, 0, none⟩), .int .i64 (m)].toArray w fun e w' => ∃ v H', e = .returned v ∧ St w (ids (H0)) H' w' ∧ (fun v H => v = .int .i64 (errC cs.length m) ∧ RefS gr (fgtC cs m) (sq) H) v H' := by
  obtain ⟨gL, cL, aS, gs, capS, Hs, rfl, hrow, hown⟩ := hR
  refine (calls_of (P := Try.prog) (n := 16) (w0 := w) (S := ids ([(gr, .cells (#[.slice (some ⟨gL, 0, none⟩) (cs.length) (cs.length), .slice (aS) (sq.length) (capS)]) 60 (0, 0)), (gL, .cells (cL) 63 (0, 0))] ++ (Hs))) (H := [(gr, .cells (#[.slice (some ⟨gL, 0, none⟩) (cs.length) (cs.length), .slice (aS) (sq.length) (capS)]) 60 (0, 0)), (gL, .cells (cL) 63 (0, 0))] ++ (Hs)) (T := fun v H => ∃ H1, (fun v H => v = .int .i64 (errC cs.length m) ∧ RefS gr (fgtC cs m) (sq) H) v H1 ∧ (H1 : Hp).Sublist H) Try.func24 rfl Try.ntmps24 (Nat.le_of_ble_eq_true rfl) [.tmp 4] rfl hat.st ?_).mono fun e w' ⟨v, H', he, hs, H1, hT, hsub⟩ => ⟨v, H1, he, hs.drop hsub, hT⟩
  refine c_seq fun K1 hK1 => ?_
  refine c_region ?_
  refine o_y (v := .int .i64 (0)) rfl rfl (y_assign rfl) ?_
  refine o_nil ?_
  refine hK1 _ _ ?_
  refine c_seq fun K2 hK2 => ?_
  refine c_seq fun K3 hK3 => ?_
  refine c_region ?_
  refine o_y (v := .pointer (some ⟨gr, 0, none⟩)) rfl rfl (y_move rfl) ?_
  refine o_y (v := .int .i64 (m)) rfl rfl (y_move rfl) ?_
  refine o_y (v := .bool (hasB cs.length (m))) rfl rfl (y_call (vs := [.pointer (some ⟨gr, 0, none⟩), .int .i64 (m)]) b29 rfl (fun w hw => f29_has gr cs sq _ (m) w ⟨gL, _, _, _, _, _, rfl, hrow, hown⟩ hcs (hw.sat (((List.Sublist.refl _).cons_cons _).cons_cons _)))) ?_
  refine o_y (v := .bool (!(hasB cs.length (m)))) rfl rfl (y_not rfl rfl) ?_
  refine o_nil ?_
  refine hK3 _ _ ?_
  refine c_cond (t := !(hasB cs.length (m))) rfl (fun hc1 => ?_) (fun hc1 => ?_)
  ·
    try have hc1' : (hasB cs.length (m)) = false := by simpa using hc1
    -- way T
    refine c_seq fun K4 hK4 => ?_
    refine c_region ?_
    refine o_y (v := .int .i64 (2)) rfl rfl (y_assign rfl) ?_
    refine o_nil ?_
    refine hK4 _ _ ?_
    refine c_ret ?_
    refine fun w hw => ⟨[.int .i64 (2)], ⟨rfl, trivial⟩, ?_⟩
    exact ⟨_, ⟨ie (errC_f hc1').symm, refs_eq (fgtC_f hc1') (rfl) ⟨gL, _, _, _, _, _, by first | rfl | (simp [cln_len, List.length_set]; done) | (simp only [List.length_append, List.length_set, cln_len]; rfl), by have h := hrow; first | exact h | (simp only [cln_len, List.length_set]; exact h), hown⟩⟩, (((List.Sublist.refl _).cons_cons _).cons_cons _)⟩
    first | done | rfl
  ·
    try have hc1' : (hasB cs.length (m)) = true := by simpa using hc1
    -- way F
    have hb := has_t hc1'
    refine c_skip ?_
    refine hK2 _ _ ?_
    refine c_seq fun K5 hK5 => ?_
    refine c_region ?_
    refine o_y (v := .pointer (some ⟨gr, 0, none⟩)) rfl rfl (y_move rfl) ?_
    refine o_y (v := .pointer (some ⟨gr, 0, none⟩)) rfl rfl (y_nilCheck rfl) ?_
    refine o_y (v := .pointer (some ⟨gr, 0, none⟩)) rfl rfl (y_fieldAddr (k := 0) rfl Try.underlying60 rfl rfl ⟨_, s57⟩ (by first | rfl | omega)) ?_
    refine o_y (v := .slice (some ⟨gL, 0, none⟩) (cs.length) (cs.length)) rfl rfl (y_load rfl Try.underlying57 rfl (Rd.one (k := 0) rfl rfl)) ?_
    refine o_y (v := .int .i64 (m)) rfl rfl (y_move rfl) ?_
    refine o_y (v := .agg (Cel.arr (cel0))) rfl rfl (y_build (ps := []) (by rw [Array.toList_map]; rfl) bld0) ?_
    refine o_y (v := .pointer (some ⟨gL, 0 + ((m).toNat) * 66, none⟩)) rfl rfl (y_ixO ((m).toNat) rfl rfl rfl Try.underlying57 s63 (by omega) (by first | omega | (simp; done) | (simp; omega))) ?_
    refine o_storeRow (E := eCel) (u := cel0) 1 ((m).toNat) rfl (by show _ = _ * 66; omega) rfl (Cel.cells _) s63 rfl hrow (by first | omega | (simp; done) | (simp; omega)) fun cq1 hrq1 => ?_
    refine o_nil ?_
    refine hK5 _ _ ?_
    refine c_seq fun K6 hK6 => ?_
    refine c_region ?_
    refine o_y (v := .int .i64 (0)) rfl rfl (y_assign rfl) ?_
    refine o_nil ?_
    refine hK6 _ _ ?_
    refine c_ret ?_
    refine fun w hw => ⟨[.int .i64 (0)], ⟨rfl, trivial⟩, ?_⟩
    exact ⟨_, ⟨ie (errC_t hc1').symm, refs_eq (fgtC_t hc1') (rfl) ⟨gL, _, _, _, _, _, by first | rfl | (simp [cln_len, List.length_set]; done) | (simp only [List.length_append, List.length_set, cln_len]; rfl), by have h := hrq1; first | exact h | (simp only [cln_len, List.length_set]; exact h), hown⟩⟩, (((List.Sublist.refl _).cons_cons _).cons_cons _)⟩
    first | done | rfl

set_option maxRecDepth 100000 in
set_option maxHeartbeats 4000000 in
theorem f25_RClean (gr : Nat) (cs : List Cel) (sq : List Int) (H0 : Hp) (w : World) (hR : RefS gr cs sq H0) (hcs : cs.length ≤ 16) (hat : At (H0) w) :
    Calls Try.prog 25 [.pointer (some ⟨gr, 0, none⟩)].toArray w fun e w' => ∃ v H', e = .returned v ∧ St w (ids (H0)) H' w' ∧ (fun v H => v = .tuple #[] ∧ RefS gr (clnC cs cs.length) ([]) H) v H' := by
  obtain ⟨gL, cL, aS, gs, capS, Hs, rfl, hrow, hown⟩ := hR
  refine (calls_of (P := Try.prog) (n := 22) (w0 := w) (S := ids ([(gr, .cells (#[.slice (some ⟨gL, 0, none⟩) (cs.length) (cs.length), .slice (aS) (sq.length) (capS)]) 60 (0, 0)), (gL, .cells (cL) 63 (0, 0))] ++ (Hs))) (H := [(gr, .cells (#[.slice (some ⟨gL, 0, none⟩) (cs.length) (cs.length), .slice (aS) (sq.length) (capS)]) 60 (0, 0)), (gL, .cells (cL) 63 (0, 0))] ++ (Hs)) (T := fun v H => ∃ H1, (fun v H => v = .tuple #[] ∧ RefS gr (clnC cs cs.length) ([]) H) v H1 ∧ (H1 : Hp).Sublist H) Try.func25 rfl Try.ntmps25 (Nat.le_of_ble_eq_true rfl) [] rfl hat.st ?_).mono fun e w' ⟨v, H', he, hs, H1, hT, hsub⟩ => ⟨v, H1, he, hs.drop hsub, hT⟩
  refine c_seq fun K1 hK1 => ?_
  refine c_seq fun K2 hK2 => ?_
  refine c_region ?_
  refine o_y (v := .int .i64 (0)) rfl rfl (y_assign rfl) ?_
  refine o_nil ?_
  refine hK2 _ _ ?_
  refine c_block ?_
  refine c_loop (fun d R H => ∃ (j : Nat) (cx : Array Value), d = cs.length - (j) ∧ (j ≤ cs.length) ∧ (Row eCel (clnC cs (j)) cx cs.length) ∧ R 0 = .pointer (some ⟨gr, 0, none⟩) ∧ R 2 = .int .i64 (((j : Nat) : Int)) ∧ H = ([(gr, .cells (#[.slice (some ⟨gL, 0, none⟩) (cs.length) (cs.length), .slice (aS) (sq.length) (capS)]) 60 (0, 0)), (gL, .cells (cx) 63 (0, 0))] ++ (Hs) : Hp)) (cs.length - (0)) ?_ ?_
  ·
    refine ⟨0, cL, rfl, by omega, hrow, rfl, (ie (a := 0) (b := ((0 : Nat) : Int)) (by omega)), rfl⟩
  ·
    rintro d1 R1 _ ⟨j, cx, hd1, hv1_0, hv1_1, h1_0, h1_2, rfl⟩
    have hcl := cln_len cs j
    refine c_seq fun K3 hK3 => ?_
    refine c_seq fun K4 hK4 => ?_
    refine c_region ?_
    refine o_y (v := .int .i64 (((j : Nat) : Int))) rfl rfl (y_move h1_2) ?_
    refine o_y (v := .pointer (some ⟨gr, 0, none⟩)) rfl rfl (y_move h1_0) ?_
    refine o_y (v := .pointer (some ⟨gr, 0, none⟩)) rfl rfl (y_nilCheck rfl) ?_
    refine o_y (v := .pointer (some ⟨gr, 0, none⟩)) rfl rfl (y_fieldAddr (k := 0) rfl Try.underlying60 rfl rfl ⟨_, s57⟩ (by first | rfl | omega)) ?_
    refine o_y (v := .slice (some ⟨gL, 0, none⟩) (cs.length) (cs.length)) rfl rfl (y_load rfl Try.underlying57 rfl (Rd.one (k := 0) rfl rfl)) ?_
    refine o_y (v := .int .i64 (((cs.length : Nat) : Int))) rfl rfl (y_len rfl Try.underlying57) ?_
    refine o_y (v := .bool (decide (((j : Nat) : Int) < ((cs.length : Nat) : Int)))) rfl rfl (y_lss rfl rfl rfl) ?_
    refine o_nil ?_
    refine hK4 _ _ ?_
    refine c_cond (t := decide (((j : Nat) : Int) < ((cs.length : Nat) : Int))) rfl (fun hc1 => ?_) (fun hc1 => ?_)
    ·
      replace hc1 := of_decide_eq_true hc1
      -- way LT
      refine c_skip ?_
      refine hK3 _ _ ?_
      refine c_seq fun K5 hK5 => ?_
      refine c_block ?_
      refine c_region ?_
      refine o_y (v := .pointer (some ⟨gr, 0, none⟩)) rfl rfl (y_move h1_0) ?_
      refine o_y (v := .pointer (some ⟨gr, 0, none⟩)) rfl rfl (y_nilCheck rfl) ?_
      refine o_y (v := .pointer (some ⟨gr, 0, none⟩)) rfl rfl (y_fieldAddr (k := 0) rfl Try.underlying60 rfl rfl ⟨_, s57⟩ (by first | rfl | omega)) ?_
      refine o_y (v := .slice (some ⟨gL, 0, none⟩) (cs.length) (cs.length)) rfl rfl (y_load rfl Try.underlying57 rfl (Rd.one (k := 0) rfl rfl)) ?_
      refine o_y (v := .int .i64 (((j : Nat) : Int))) rfl rfl (y_move h1_2) ?_
      refine o_y (v := .pointer (some ⟨gL, 0 + j * 66, none⟩)) rfl rfl (y_ixO j rfl rfl rfl Try.underlying57 s63 (by omega) (by first | omega | (simp; done) | (simp; omega))) ?_
      refine o_y (v := .pointer (some ⟨gL, 0 + j * 66 + 1, none⟩)) rfl rfl (y_fieldAddr (k := 1) rfl Try.underlying63 rfl rfl ⟨_, s4⟩ (by first | rfl | omega)) ?_
      refine o_storeRowP (v := .bool (false)) (E := eCel) (u := { (clnC cs (j)).getD (j) cel0 with d := false }) 1 j 1 rfl (by show _ = _ * 66 + _; omega) rfl s4 rfl hv1_1 (by first | omega | (simp; done) | (simp; omega)) (by decide) (by simp [Value.oneCell', Value.cells]) ((Cel.setd' _ _ (by first | omega | (simp; done) | (simp; omega)) _)) fun cq1 hrq1 => ?_
      refine o_nil ?_
      refine hK5 _ _ ?_
      refine c_region ?_
      refine o_y (v := .int .i64 (((j : Nat) : Int))) rfl rfl (y_move h1_2) ?_
      refine o_y (v := .int .i64 ((((j : Nat) : Int)) + 1)) rfl rfl (y_add rfl rfl (wi_i64 (by omega) (by omega))) ?_
      refine o_y (v := .int .i64 ((((j : Nat) : Int)) + 1)) rfl rfl (y_assign rfl) ?_
      refine o_nil ?_
      refine ⟨_, by omega, j + 1, cq1, rfl, by omega, hrq1, h1_0, (ie (a := (((j : Nat) : Int)) + 1) (b := ((j + 1 : Nat) : Int)) (by omega)), rfl⟩
    ·
      replace hc1 := of_decide_eq_false hc1
      -- way LF
      have hjj : j = cs.length := by omega
      subst hjj
      refine c_exit ?_
      refine hK1 _ _ ?_
      refine c_region ?_
      refine o_y (v := .pointer (some ⟨gr, 0, none⟩)) rfl rfl (y_move h1_0) ?_
      refine o_y (v := .pointer (some ⟨gr, 0, none⟩)) rfl rfl (y_nilCheck rfl) ?_
      refine o_y (v := .pointer (some ⟨gr, 1, none⟩)) rfl rfl (y_fieldAddr (k := 1) rfl Try.underlying60 rfl rfl ⟨_, s58⟩ (by first | rfl | omega)) ?_
      refine o_storeC (H' := [(gr, .cells (#[.slice (some ⟨gL, 0, none⟩) (cs.length) (cs.length), .slice none 0 0]) 60 (0, 0)), (gL, .cells (cx) 63 (0, 0))] ++ (Hs)) 0 rfl rfl rfl rfl rfl s58 (Nat.le_of_ble_eq_true rfl) rfl rfl ?_
      refine o_nil ?_
      refine fun w hw => ⟨[], trivial, ?_⟩
      exact ⟨_, ⟨rfl, refs_eq (rfl) (rfl) ⟨gL, _, none, 0, 0, [], by first | rfl | (simp [cln_len, List.length_set]; done) | (simp only [List.length_append, List.length_set, cln_len]; rfl), by have h := hv1_1; first | exact h | (simp only [cln_len, List.length_set]; exact h), OwnV.none'⟩⟩, (((List.nil_sublist _).cons_cons _).cons_cons _)⟩
      first | done | rfl

set_option maxRecDepth 100000 in
set_option maxHeartbeats 4000000 in
theorem f26_RGet (gr : Nat) (cs : List Cel) (sq : List Int) (H0 : Hp) (m : Int) (w : World) (hR : RefS gr cs sq H0) (hcs : cs.length ≤ 16) (hat : At (H0) w) :
    Calls Try.prog 26 [.pointer (some ⟨gr, 0, none⟩), .int .i64 (m)].toArray w fun e w' => e = .returned (.tuple #[.agg (bv (gtB cs m)), .bool (gtK cs m)]) ∧ Below w.heap.size w w' := by
  obtain ⟨gL, cL, aS, gs, capS, Hs, rfl, hrow, hown⟩ := hR
  refine (calls_of (P := Try.prog) (n := 27) (w0 := w) (S := ids ([(gr, .cells (#[.slice (some ⟨gL, 0, none⟩) (cs.length) (cs.length), .slice (aS) (sq.length) (capS)]) 60 (0, 0)), (gL, .cells (cL) 63 (0, 0))] ++ (Hs))) (H := [(gr, .cells (#[.slice (some ⟨gL, 0, none⟩) (cs.length) (cs.length), .slice (aS) (sq.length) (capS)]) 60 (0, 0)), (gL, .cells (cL) 63 (0, 0))] ++ (Hs)) (T := fun v H => v = (.tuple #[.agg (bv (gtB cs m)), .bool (gtK cs m)]) ∧ ([(gr, .cells (#[.slice (some ⟨gL, 0, none⟩) (cs.length) (cs.length), .slice (aS) (sq.length) (capS)]) 60 (0, 0)), (gL, .cells (cL) 63 (0, 0))] ++ (Hs) : Hp).Sublist H) Try.func26 rfl Try.ntmps26 (Nat.le_of_ble_eq_true rfl) [.cell 4 23, .tmp 5] rfl hat.st ?_).mono fun e w' ⟨v, H', he, hs, hT, hsub⟩ => ⟨by rw [he, hT], St.same hat hs hsub⟩
  refine c_seq fun K1 hK1 => ?_
  refine c_region ?_
  refine o_alloc (z := .agg (bv (zB))) rfl z23 fun g1 => ?_
  refine o_y (v := .bool (false)) rfl rfl (y_assign rfl) ?_
  refine o_nil ?_
  refine hK1 _ _ ?_
  refine c_seq fun K2 hK2 => ?_
  refine c_seq fun K3 hK3 => ?_
  refine c_region ?_
  refine o_y (v := .pointer (some ⟨gr, 0, none⟩)) rfl rfl (y_move rfl) ?_
  refine o_y (v := .int .i64 (m)) rfl rfl (y_move rfl) ?_
  refine o_y (v := .bool (hasB cs.length (m))) rfl rfl (y_call (vs := [.pointer (some ⟨gr, 0, none⟩), .int .i64 (m)]) b29 rfl (fun w hw => f29_has gr cs sq _ (m) w ⟨gL, _, _, _, _, _, rfl, hrow, hown⟩ hcs (hw.sat ((((List.Sublist.refl _).cons_cons _).cons_cons _).cons _)))) ?_
  refine o_y (v := .bool (!(hasB cs.length (m)))) rfl rfl (y_not rfl rfl) ?_
  refine o_nil ?_
  refine hK3 _ _ ?_
  refine c_cond (t := !(hasB cs.length (m))) rfl (fun hc1 => ?_) (fun hc1 => ?_)
  ·
    try have hc1' : (hasB cs.length (m)) = false := by simpa using hc1
    -- way T
    refine c_seq fun K4 hK4 => ?_
    refine c_region ?_
    refine o_y (v := .agg (bv (zB))) rfl rfl (y_build rfl (by kernel_rfl)) ?_
    refine o_storeB (H' := [(g1, .cells (bv (zB)) 23 (0, 0)), (gr, .cells (#[.slice (some ⟨gL, 0, none⟩) (cs.length) (cs.length), .slice (aS) (sq.length) (capS)]) 60 (0, 0)), (gL, .cells (cL) 63 (0, 0))] ++ (Hs)) T23 0 rfl rfl rfl rfl ?_
    refine o_y (v := .bool (false)) rfl rfl (y_assign rfl) ?_
    refine o_nil ?_
    refine hK4 _ _ ?_
    refine c_ret ?_
    refine fun w hw => ⟨[.agg (bv (zB)), .bool (false)], ⟨⟨_, rfl, loadB T23 ((Rd.whole (k := 0) rfl) w hw)⟩, rfl, trivial⟩, ?_⟩
    exact ⟨by rw [gtB_f hc1', gtK_f hc1']; rfl, (((((List.Sublist.refl _).cons_cons _).cons_cons _).cons _))⟩
    first | done | rfl
  ·
    try have hc1' : (hasB cs.length (m)) = true := by simpa using hc1
    -- way F
    have hb := has_t hc1'
    refine c_skip ?_
    refine hK2 _ _ ?_
    refine c_seq fun K5 hK5 => ?_
    refine c_drawF [0, 1, 2, 3, 4, 5, 6, 7, 8, 9, 10, 11, 12, 13, 14, 15] [16, 17] [0, 1, 2, 3, 4, 5, 6, 7] (by kernel_rfl) (by kernel_rfl) ?_
    refine f_e (v := .pointer (some ⟨gr, 0, none⟩)) rfl rfl (qn rfl (y_move rfl)) ?_
    refine f_e (v := .pointer (some ⟨gr, 0, none⟩)) rfl rfl (qn rfl (y_nilCheck rfl)) ?_
    refine f_e (v := .pointer (some ⟨gr, 0, none⟩)) rfl rfl (qn rfl (y_fieldAddr (k := 0) rfl Try.underlying60 rfl rfl ⟨_, s57⟩ (by first | rfl | omega))) ?_
    refine f_e (v := .slice (some ⟨gL, 0, none⟩) (cs.length) (cs.length)) rfl rfl (qn rfl (y_load rfl Try.underlying57 rfl (Rd.one (k := 1) rfl rfl))) ?_
    refine f_e (v := .int .i64 (m)) rfl rfl (qn rfl (y_move rfl)) ?_
    refine f_e (v := .pointer (some ⟨gL, 0 + ((m).toNat) * 66, none⟩)) rfl rfl (qn rfl (y_ixO ((m).toNat) rfl rfl rfl Try.underlying57 s63 (by omega) (by first | omega | (simp; done) | (simp; omega)))) ?_
    refine f_e (v := .pointer (some ⟨gL, 0 + ((m).toNat) * 66 + 2, none⟩)) rfl rfl (qn rfl (y_fieldAddr (k := 2) rfl Try.underlying63 rfl rfl ⟨_, s23⟩ (by first | rfl | omega))) ?_
    refine f_e (v := .agg (bv (((cs).getD ((m).toNat) cel0).b))) rfl rfl (qn rfl (y_loadB T23 rfl (Rd.sub (k := 2) (SlG.rd' (SlG.row (k := 2) rfl hrow) (at_getD (by first | omega | (simp; done) | (simp; omega)))) (by show _ + _ * 66 + _ = _; omega) (Cel.at_b _)))) ?_
    refine f_l (v := .pointer (some ⟨gr, 0, none⟩)) rfl rfl (qn rfl (y_move rfl)) ?_
    refine f_l (v := .pointer (some ⟨gr, 0, none⟩)) rfl rfl (qn rfl (y_nilCheck rfl)) ?_
    refine f_l (v := .pointer (some ⟨gr, 0, none⟩)) rfl rfl (qn rfl (y_fieldAddr (k := 0) rfl Try.underlying60 rfl rfl ⟨_, s57⟩ (by first | rfl | omega))) ?_
    refine f_l (v := .slice (some ⟨gL, 0, none⟩) (cs.length) (cs.length)) rfl rfl (qn rfl (y_load rfl Try.underlying57 rfl (Rd.one (k := 1) rfl rfl))) ?_
    refine f_l (v := .int .i64 (m)) rfl rfl (qn rfl (y_move rfl)) ?_
    refine f_l (v := .pointer (some ⟨gL, 0 + ((m).toNat) * 66, none⟩)) rfl rfl (qn rfl (y_ixO ((m).toNat) rfl rfl rfl Try.underlying57 s63 (by omega) (by first | omega | (simp; done) | (simp; omega)))) ?_
    refine f_l (v := .pointer (some ⟨gL, 0 + ((m).toNat) * 66 + 0, none⟩)) rfl rfl (qn rfl (y_fieldAddr (k := 0) rfl Try.underlying63 rfl rfl ⟨_, s4⟩ (by first | rfl | omega))) ?_
    refine f_l (v := .bool (((cs).getD ((m).toNat) cel0).k)) rfl rfl (qn rfl (y_load rfl Try.underlying4 rfl (Rd.sub1 (k := 0) (SlG.rd' (SlG.row (k := 2) rfl hrow) (at_getD (by first | omega | (simp; done) | (simp; omega)))) (by show _ + _ * 66 + _ = _; omega) rfl))) ?_
    refine f_nil ?_
    refine t_step rfl ?_
    refine o_storeB (H' := [(g1, .cells (bv (((cs).getD ((m).toNat) cel0).b)) 23 (0, 0)), (gr, .cells (#[.slice (some ⟨gL, 0, none⟩) (cs.length) (cs.length), .slice (aS) (sq.length) (capS)]) 60 (0, 0)), (gL, .cells (cL) 63 (0, 0))] ++ (Hs)) T23 0 rfl rfl rfl rfl ?_
    refine o_nil ⟨rfl, ⟨qn rfl (y_load rfl Try.underlying4 rfl (Rd.sub1 (k := 0) (SlG.rd' (SlG.row (k := 2) rfl hrow) (at_getD (by first | omega | (simp; done) | (simp; omega)))) (by show _ + _ * 66 + _ = _; omega) rfl)), ⟨qn rfl (y_fieldAddr (k := 0) rfl Try.underlying63 rfl rfl ⟨_, s4⟩ (by first | rfl | omega)), ⟨qn rfl (y_ixO ((m).toNat) rfl rfl rfl Try.underlying57 s63 (by omega) (by first | omega | (simp; done) | (simp; omega))), ⟨qn rfl (y_move rfl), ⟨qn rfl (y_load rfl Try.underlying57 rfl (Rd.one (k := 1) rfl rfl)), ⟨qn rfl (y_fieldAddr (k := 0) rfl Try.underlying60 rfl rfl ⟨_, s57⟩ (by first | rfl | omega)), ⟨qn rfl (y_nilCheck rfl), ⟨qn rfl (y_move rfl), trivial⟩⟩⟩⟩⟩⟩⟩⟩, ?_⟩
    refine t_step rfl ?_
    refine o_y (v := .bool (((cs).getD ((m).toNat) cel0).k)) rfl rfl (y_assign rfl) ?_
    refine o_nil ⟨rfl, ⟨qn rfl (y_load rfl Try.underlying4 rfl (Rd.sub1 (k := 0) (SlG.rd' (SlG.row (k := 2) rfl hrow) (at_getD (by first | omega | (simp; done) | (simp; omega)))) (by show _ + _ * 66 + _ = _; omega) rfl)), ⟨qn rfl (y_fieldAddr (k := 0) rfl Try.underlying63 rfl rfl ⟨_, s4⟩ (by first | rfl | omega)), ⟨qn rfl (y_ixO ((m).toNat) rfl rfl rfl Try.underlying57 s63 (by omega) (by first | omega | (simp; done) | (simp; omega))), ⟨qn rfl (y_move rfl), ⟨qn rfl (y_load rfl Try.underlying57 rfl (Rd.one (k := 1) rfl rfl)), ⟨qn rfl (y_fieldAddr (k := 0) rfl Try.underlying60 rfl rfl ⟨_, s57⟩ (by first | rfl | omega)), ⟨qn rfl (y_nilCheck rfl), ⟨qn rfl (y_move rfl), trivial⟩⟩⟩⟩⟩⟩⟩⟩, ?_⟩
    refine t_nil ?_
    refine hK5 _ _ ?_
    refine c_ret ?_
    refine fun w hw => ⟨[.agg (bv (((cs).getD ((m).toNat) cel0).b)), .bool (((cs).getD ((m).toNat) cel0).k)], ⟨⟨_, rfl, loadB T23 ((Rd.whole (k := 0) rfl) w hw)⟩, rfl, trivial⟩, ?_⟩
    exact ⟨by rw [gtB_t hc1', gtK_t hc1']; rfl, (((((List.Sublist.refl _).cons_cons _).cons_cons _).cons _))⟩
    first | done | rfl

set_option maxRecDepth 100000 in
set_option maxHeartbeats 4000000 in
theorem f27_RFirst (gr : Nat) (cs : List Cel) (sq : List Int) (H0 : Hp) (w : World) (hR : RefS gr cs sq H0) (hcs : cs.length ≤ 16) (hsq : sq.length ≤ 1000) (hat : At (H0) w) :
    Calls Try.prog 27 [.pointer (some ⟨gr, 0, none⟩)].toArray w fun e w' => e = .returned (.int .u64 (leastQ sq)) ∧ Below w.heap.size w w' := by
  obtain ⟨gL, cL, aS, gs, capS, Hs, rfl, hrow, hown⟩ := hR
  refine (calls_of (P := Try.prog) (n := 35) (w0 := w) (S := ids ([(gr, .cells (#[.slice (some ⟨gL, 0, none⟩) (cs.length) (cs.length), .slice (aS) (sq.length) (capS)]) 60 (0, 0)), (gL, .cells (cL) 63 (0, 0))] ++ (Hs))) (H := [(gr, .cells (#[.slice (some ⟨gL, 0, none⟩) (cs.length) (cs.length), .slice (aS) (sq.length) (capS)]) 60 (0, 0)), (gL, .cells (cL) 63 (0, 0))] ++ (Hs)) (T := fun v H => v = (.int .u64 (leastQ sq)) ∧ ([(gr, .cells (#[.slice (some ⟨gL, 0, none⟩) (cs.length) (cs.length), .slice (aS) (sq.length) (capS)]) 60 (0, 0)), (gL, .cells (cL) 63 (0, 0))] ++ (Hs) : Hp).Sublist H) Try.func27 rfl Try.ntmps27 (Nat.le_of_ble_eq_true rfl) [.tmp 2] rfl hat.st ?_).mono fun e w' ⟨v, H', he, hs, hT, hsub⟩ => ⟨by rw [he, hT], St.same hat hs hsub⟩
  refine c_seq fun K1 hK1 => ?_
  refine c_region ?_
  refine o_y (v := .int .u64 (0)) rfl rfl (y_assign rfl) ?_
  refine o_nil ?_
  refine hK1 _ _ ?_
  refine c_seq fun K2 hK2 => ?_
  refine c_region ?_
  refine o_y (v := .int .u64 (0)) rfl rfl (y_assign rfl) ?_
  refine o_nil ?_
  refine hK2 _ _ ?_
  refine c_seq fun K3 hK3 => ?_
  refine c_seq fun K4 hK4 => ?_
  refine c_region ?_
  refine o_y (v := .int .i64 (0)) rfl rfl (y_assign rfl) ?_
  refine o_nil ?_
  refine hK4 _ _ ?_
  refine c_block ?_
  refine c_loop (fun d R H => ∃ (j : Nat), d = sq.length - (j) ∧ (j ≤ sq.length) ∧ R 0 = .pointer (some ⟨gr, 0, none⟩) ∧ R 4 = .int .i64 (((j : Nat) : Int)) ∧ R 3 = .int .u64 (leastQ (sq.take (j))) ∧ H = ([(gr, .cells (#[.slice (some ⟨gL, 0, none⟩) (cs.length) (cs.length), .slice (aS) (sq.length) (capS)]) 60 (0, 0)), (gL, .cells (cL) 63 (0, 0))] ++ (Hs) : Hp)) (sq.length - (0)) ?_ ?_
  ·
    refine ⟨0, rfl, by omega, rfl, (ie (a := 0) (b := ((0 : Nat) : Int)) (by omega)), ie (by rw [List.take_zero]; rfl), rfl⟩
  ·
    rintro d1 R1 _ ⟨j, hd1, hv1_0, h1_0, h1_4, h1_3, rfl⟩
    refine c_seq fun K5 hK5 => ?_
    refine c_seq fun K6 hK6 => ?_
    refine c_region ?_
    refine o_y (v := .int .i64 (((j : Nat) : Int))) rfl rfl (y_move h1_4) ?_
    refine o_y (v := .pointer (some ⟨gr, 0, none⟩)) rfl rfl (y_move h1_0) ?_
    refine o_y (v := .pointer (some ⟨gr, 0, none⟩)) rfl rfl (y_nilCheck rfl) ?_
    refine o_y (v := .pointer (some ⟨gr, 1, none⟩)) rfl rfl (y_fieldAddr (k := 1) rfl Try.underlying60 rfl rfl ⟨_, s58⟩ (by first | rfl | omega)) ?_
    refine o_y (v := .slice (aS) (sq.length) (capS)) rfl rfl (y_load rfl Try.underlying58 rfl (Rd.one (k := 0) rfl rfl)) ?_
    refine o_y (v := .int .i64 (((sq.length : Nat) : Int))) rfl rfl (y_len rfl Try.underlying58) ?_
    refine o_y (v := .bool (decide (((j : Nat) : Int) < ((sq.length : Nat) : Int)))) rfl rfl (y_lss rfl rfl rfl) ?_
    refine o_nil ?_
    refine hK6 _ _ ?_
    refine c_cond (t := decide (((j : Nat) : Int) < ((sq.length : Nat) : Int))) rfl (fun hc1 => ?_) (fun hc1 => ?_)
    ·
      replace hc1 := of_decide_eq_true hc1
      -- way LT
      refine c_skip ?_
      refine hK5 _ _ ?_
      refine c_seq fun K7 hK7 => ?_
      refine c_block ?_
      refine c_seq fun K8 hK8 => ?_
      refine c_region ?_
      refine o_y (v := .int .u64 (leastQ (sq.take (j)))) rfl rfl (y_move h1_3) ?_
      refine o_y (v := .bool (decide (leastQ (sq.take (j)) = 0))) rfl rfl (y_eql rfl rfl rfl) ?_
      refine o_y (v := .bool (decide (leastQ (sq.take (j)) = 0))) rfl rfl (y_move rfl) ?_
      cases hc2 : (decide (leastQ (sq.take (j)) = 0) : Bool)
      ·
        have hc2' := of_decide_eq_false hc2
        -- way LTF
        refine o_guard (j := 2) (d := 16) (b := false) rfl rfl rfl (fun _ => ?_) rfl (fun h => by cases h)
        refine o_y (v := .pointer (some ⟨gr, 0, none⟩)) rfl rfl (y_move h1_0) ?_
        refine o_guard (j := 2) (d := 16) (b := false) rfl rfl rfl (fun _ => ?_) rfl (fun h => by cases h)
        refine o_y (v := .pointer (some ⟨gr, 0, none⟩)) rfl rfl (y_nilCheck rfl) ?_
        refine o_guard (j := 2) (d := 16) (b := false) rfl rfl rfl (fun _ => ?_) rfl (fun h => by cases h)
        refine o_y (v := .pointer (some ⟨gr, 1, none⟩)) rfl rfl (y_fieldAddr (k := 1) rfl Try.underlying60 rfl rfl ⟨_, s58⟩ (by first | rfl | omega)) ?_
        refine o_guard (j := 2) (d := 16) (b := false) rfl rfl rfl (fun _ => ?_) rfl (fun h => by cases h)
        refine o_y (v := .slice (aS) (sq.length) (capS)) rfl rfl (y_load rfl Try.underlying58 rfl (Rd.one (k := 0) rfl rfl)) ?_
        refine o_guard (j := 2) (d := 16) (b := false) rfl rfl rfl (fun _ => ?_) rfl (fun h => by cases h)
        refine o_y (v := .int .i64 (((j : Nat) : Int))) rfl rfl (y_move h1_4) ?_
        refine o_guard (j := 2) (d := 16) (b := false) rfl rfl rfl (fun _ => ?_) rfl (fun h => by cases h)
        refine o_y (v := .pointer (some ⟨gs, 0 + j * 1, none⟩)) rfl rfl (y_ixO j (hown.at_ (by first | omega | (simp; done) | (simp; omega))) rfl rfl Try.underlying58 s24 (by omega) (by first | omega | (simp; done) | (simp; omega))) ?_
        refine o_guard (j := 2) (d := 16) (b := false) rfl rfl rfl (fun _ => ?_) rfl (fun h => by cases h)
        refine o_y (v := .int .u64 ((sq)[j])) rfl rfl (y_load rfl Try.underlying24 rfl (SlG.rd (SlG.own hown (fun p hp => (List.mem_cons_of_mem _ (List.mem_cons_of_mem _ hp)))) j (by first | omega | (simp; done) | (simp; omega)))) ?_
        refine o_guard (j := 2) (d := 16) (b := false) rfl rfl rfl (fun _ => ?_) rfl (fun h => by cases h)
        refine o_y (v := .int .u64 (leastQ (sq.take (j)))) rfl rfl (y_move h1_3) ?_
        refine o_guard (j := 2) (d := 16) (b := false) rfl rfl rfl (fun _ => ?_) rfl (fun h => by cases h)
        refine o_y (v := .bool (decide ((sq)[j] < leastQ (sq.take (j))))) rfl rfl (y_lss rfl rfl rfl) ?_
        refine o_y (v := .bool (decide ((sq)[j] < leastQ (sq.take (j))))) rfl rfl (y_pick (b := false) rfl rfl) ?_
        refine o_nil ?_
        refine hK8 _ _ ?_
        refine c_cond (t := decide ((sq)[j] < leastQ (sq.take (j)))) rfl (fun hc3 => ?_) (fun hc3 => ?_)
        ·
          replace hc3 := of_decide_eq_true hc3
          -- way LTFT
          have hls := least_t (l := sq) (j := j) (by omega) (.inr hc3)
          refine c_region ?_
          refine o_y (v := .pointer (some ⟨gr, 0, none⟩)) rfl rfl (y_move h1_0) ?_
          refine o_y (v := .pointer (some ⟨gr, 0, none⟩)) rfl rfl (y_nilCheck rfl) ?_
          refine o_y (v := .pointer (some ⟨gr, 1, none⟩)) rfl rfl (y_fieldAddr (k := 1) rfl Try.underlying60 rfl rfl ⟨_, s58⟩ (by first | rfl | omega)) ?_
          refine o_y (v := .slice (aS) (sq.length) (capS)) rfl rfl (y_load rfl Try.underlying58 rfl (Rd.one (k := 0) rfl rfl)) ?_
          refine o_y (v := .int .i64 (((j : Nat) : Int))) rfl rfl (y_move h1_4) ?_
          refine o_y (v := .pointer (some ⟨gs, 0 + j * 1, none⟩)) rfl rfl (y_ixO j (hown.at_ (by first | omega | (simp; done) | (simp; omega))) rfl rfl Try.underlying58 s24 (by omega) (by first | omega | (simp; done) | (simp; omega))) ?_
          refine o_y (v := .int .u64 ((sq)[j])) rfl rfl (y_load rfl Try.underlying24 rfl (SlG.rd (SlG.own hown (fun p hp => (List.mem_cons_of_mem _ (List.mem_cons_of_mem _ hp)))) j (by first | omega | (simp; done) | (simp; omega)))) ?_
          refine o_y (v := .int .u64 ((sq)[j])) rfl rfl (y_assign rfl) ?_
          refine o_nil ?_
          refine hK7 _ _ ?_
          refine c_region ?_
          refine o_y (v := .int .i64 (((j : Nat) : Int))) rfl rfl (y_move h1_4) ?_
          refine o_y (v := .int .i64 ((((j : Nat) : Int)) + 1)) rfl rfl (y_add rfl rfl (wi_i64 (by omega) (by omega))) ?_
          refine o_y (v := .int .i64 ((((j : Nat) : Int)) + 1)) rfl rfl (y_assign rfl) ?_
          refine o_nil ?_
          refine ⟨_, by omega, j + 1, rfl, by omega, h1_0, (ie (a := (((j : Nat) : Int)) + 1) (b := ((j + 1 : Nat) : Int)) (by omega)), (ie (a := (sq)[j]) (b := leastQ (sq.take (j + 1))) (by omega)), rfl⟩
        ·
          replace hc3 := of_decide_eq_false hc3
          -- way LTFF
          have hls := least_f (l := sq) (j := j) (by omega) (by omega)
          refine c_skip ?_
          refine hK7 _ _ ?_
          refine c_region ?_
          refine o_y (v := .int .i64 (((j : Nat) : Int))) rfl rfl (y_move h1_4) ?_
          refine o_y (v := .int .i64 ((((j : Nat) : Int)) + 1)) rfl rfl (y_add rfl rfl (wi_i64 (by omega) (by omega))) ?_
          refine o_y (v := .int .i64 ((((j : Nat) : Int)) + 1)) rfl rfl (y_assign rfl) ?_
          refine o_nil ?_
          refine ⟨_, by omega, j + 1, rfl, by omega, h1_0, (ie (a := (((j : Nat) : Int)) + 1) (b := ((j + 1 : Nat) : Int)) (by omega)), ((h1_3).trans (ie (a := leastQ (sq.take (j))) (b := leastQ (sq.take (j + 1))) (by omega))), rfl⟩
      ·
        have hc2' := of_decide_eq_true hc2
        -- way LTT
        have hls := least_t (l := sq) (j := j) (by omega) (.inl hc2')
        refine o_guard (j := 2) (d := 16) (b := true) rfl rfl rfl (fun h => by cases h) rfl (fun _ => ?_)
        refine o_guard (j := 2) (d := 16) (b := true) rfl rfl rfl (fun h => by cases h) rfl (fun _ => ?_)
        refine o_guard (j := 2) (d := 16) (b := true) rfl rfl rfl (fun h => by cases h) rfl (fun _ => ?_)
        refine o_guard (j := 2) (d := 16) (b := true) rfl rfl rfl (fun h => by cases h) rfl (fun _ => ?_)
        refine o_guard (j := 2) (d := 16) (b := true) rfl rfl rfl (fun h => by cases h) rfl (fun _ => ?_)
        refine o_guard (j := 2) (d := 16) (b := true) rfl rfl rfl (fun h => by cases h) rfl (fun _ => ?_)
        refine o_guard (j := 2) (d := 16) (b := true) rfl rfl rfl (fun h => by cases h) rfl (fun _ => ?_)
        refine o_guard (j := 2) (d := 16) (b := true) rfl rfl rfl (fun h => by cases h) rfl (fun _ => ?_)
        refine o_guard (j := 2) (d := 16) (b := true) rfl rfl rfl (fun h => by cases h) rfl (fun _ => ?_)
        refine o_y (v := .bool (true)) rfl rfl (y_pick (b := true) rfl rfl) ?_
        refine o_nil ?_
        refine hK8 _ _ ?_
        refine c_cond (t := true) rfl (fun _ => ?_) (fun h => by cases h)
        refine c_region ?_
        refine o_y (v := .pointer (some ⟨gr, 0, none⟩)) rfl rfl (y_move h1_0) ?_
        refine o_y (v := .pointer (some ⟨gr, 0, none⟩)) rfl rfl (y_nilCheck rfl) ?_
        refine o_y (v := .pointer (some ⟨gr, 1, none⟩)) rfl rfl (y_fieldAddr (k := 1) rfl Try.underlying60 rfl rfl ⟨_, s58⟩ (by first | rfl | omega)) ?_
        refine o_y (v := .slice (aS) (sq.length) (capS)) rfl rfl (y_load rfl Try.underlying58 rfl (Rd.one (k := 0) rfl rfl)) ?_
        refine o_y (v := .int .i64 (((j : Nat) : Int))) rfl rfl (y_move h1_4) ?_
        refine o_y (v := .pointer (some ⟨gs, 0 + j * 1, none⟩)) rfl rfl (y_ixO j (hown.at_ (by first | omega | (simp; done) | (simp; omega))) rfl rfl Try.underlying58 s24 (by omega) (by first | omega | (simp; done) | (simp; omega))) ?_
        refine o_y (v := .int .u64 ((sq)[j])) rfl rfl (y_load rfl Try.underlying24 rfl (SlG.rd (SlG.own hown (fun p hp => (List.mem_cons_of_mem _ (List.mem_cons_of_mem _ hp)))) j (by first | omega | (simp; done) | (simp; omega)))) ?_
        refine o_y (v := .int .u64 ((sq)[j])) rfl rfl (y_assign rfl) ?_
        refine o_nil ?_
        refine hK7 _ _ ?_
        refine c_region ?_
        refine o_y (v := .int .i64 (((j : Nat) : Int))) rfl rfl (y_move h1_4) ?_
        refine o_y (v := .int .i64 ((((j : Nat) : Int)) + 1)) rfl rfl (y_add rfl rfl (wi_i64 (by omega) (by omega))) ?_
        refine o_y (v := .int .i64 ((((j : Nat) : Int)) + 1)) rfl rfl (y_assign rfl) ?_
        refine o_nil ?_
        refine ⟨_, by omega, j + 1, rfl, by omega, h1_0, (ie (a := (((j : Nat) : Int)) + 1) (b := ((j + 1 : Nat) : Int)) (by omega)), (ie (a := (sq)[j]) (b := leastQ (sq.take (j + 1))) (by omega)), rfl⟩
    ·
      replace hc1 := of_decide_eq_false hc1
      -- way LF
      refine c_exit ?_
      refine hK3 _ _ ?_
      refine c_seq fun K9 hK9 => ?_
      refine c_region ?_
      refine o_y (v := .int .u64 (leastQ (sq.take (j)))) rfl rfl (y_move h1_3) ?_
      refine o_y (v := .int .u64 (leastQ (sq.take (j)))) rfl rfl (y_assign rfl) ?_
      refine o_nil ?_
      refine hK9 _ _ ?_
      refine c_ret ?_
      refine fun w hw => ⟨[.int .u64 (leastQ (sq.take (j)))], ⟨rfl, trivial⟩, ?_⟩
      have hjj : j = sq.length := by omega
      exact ⟨ie (by rw [hjj, List.take_length]), ((((List.Sublist.refl _).cons_cons _).cons_cons _))⟩
      first | done | rfl

set_option maxRecDepth 100000 in
set_option maxHeartbeats 4000000 in
theorem f28_RDirty (gr : Nat) (cs : List Cel) (sq : List Int) (H0 : Hp) (w : World) (hR : RefS gr cs sq H0) (hcs : cs.length ≤ 16) (hat : At (H0) w) :
    Calls Try.prog 28 [.pointer (some ⟨gr, 0, none⟩)].toArray w fun e w' => ∃ v H', e = .returned v ∧ St w (fun _ => False) H' w' ∧ (fun v H => ∃ a g2 cap, v = .slice a (csel cs cs.length).length cap ∧ OwnV eInt 3 (csel cs cs.length) a g2 cap H) v H' := by
  obtain ⟨gL, cL, aS, gs, capS, Hs, rfl, hrow, hown⟩ := hR
  refine (calls_of (P := Try.prog) (n := 27) (w0 := w) (S := ids ([(gr, .cells (#[.slice (some ⟨gL, 0, none⟩) (cs.length) (cs.length), .slice (aS) (sq.length) (capS)]) 60 (0, 0)), (gL, .cells (cL) 63 (0, 0))] ++ (Hs))) (H := [(gr, .cells (#[.slice (some ⟨gL, 0, none⟩) (cs.length) (cs.length), .slice (aS) (sq.length) (capS)]) 60 (0, 0)), (gL, .cells (cL) 63 (0, 0))] ++ (Hs)) (T := fun v H => ∃ H1, (fun v H => ∃ a g2 cap, v = .slice a (csel cs cs.length).length cap ∧ OwnV eInt 3 (csel cs cs.length) a g2 cap H) v H1 ∧ (([(gr, .cells (#[.slice (some ⟨gL, 0, none⟩) (cs.length) (cs.length), .slice (aS) (sq.length) (capS)]) 60 (0, 0)), (gL, .cells (cL) 63 (0, 0))] ++ (Hs) : Hp) ++ H1).Sublist H) Try.func28 rfl Try.ntmps28 (Nat.le_of_ble_eq_true rfl) [.tmp 2] rfl hat.st ?_).mono fun e w' ⟨v, H', he, hs, H1, hT, hsub⟩ => ⟨v, H1, he, St.pure hat hs hsub, hT⟩
  refine c_seq fun K1 hK1 => ?_
  refine c_region ?_
  refine o_y (v := .slice none 0 0) rfl rfl (y_assign rfl) ?_
  refine o_nil ?_
  refine hK1 _ _ ?_
  refine c_seq fun K2 hK2 => ?_
  refine c_region ?_
  refine o_y (v := .slice none 0 0) rfl rfl (y_assign rfl) ?_
  refine o_nil ?_
  refine hK2 _ _ ?_
  refine c_seq fun K3 hK3 => ?_
  refine c_seq fun K4 hK4 => ?_
  refine c_region ?_
  refine o_y (v := .int .i64 (0)) rfl rfl (y_assign rfl) ?_
  refine o_nil ?_
  refine hK4 _ _ ?_
  refine c_block ?_
  refine c_loop (fun d R H => ∃ (j : Nat) (a : Option Addr) (g2 : Nat) (cap : Nat) (Hx : Hp), d = cs.length - (j) ∧ (j ≤ cs.length) ∧ (OwnV eInt 3 (csel cs (j)) a g2 cap Hx) ∧ R 0 = .pointer (some ⟨gr, 0, none⟩) ∧ R 4 = .int .i64 (((j : Nat) : Int)) ∧ R 3 = .slice (a) ((csel cs (j)).length) (cap) ∧ H = ([(gr, .cells (#[.slice (some ⟨gL, 0, none⟩) (cs.length) (cs.length), .slice (aS) (sq.length) (capS)]) 60 (0, 0)), (gL, .cells (cL) 63 (0, 0))] ++ (Hs ++ Hx) : Hp)) (cs.length - (0)) ?_ ?_
  ·
    refine ⟨0, none, 0, 0, [], rfl, by omega, OwnV.none', rfl, (ie (a := 0) (b := ((0 : Nat) : Int)) (by omega)), rfl, ?_⟩
    simp; first | done | rfl
  ·
    rintro d1 R1 _ ⟨j, a, g2, cap, Hx, hd1, hv1_0, hv1_1, h1_0, h1_4, h1_3, rfl⟩
    have hsl := csel_le cs j
    have hol := hv1_1.le
    have hom := hv1_1.mx
    simp only [maxLen] at hom
    refine c_seq fun K5 hK5 => ?_
    refine c_seq fun K6 hK6 => ?_
    refine c_region ?_
    refine o_y (v := .int .i64 (((j : Nat) : Int))) rfl rfl (y_move h1_4) ?_
    refine o_y (v := .pointer (some ⟨gr, 0, none⟩)) rfl rfl (y_move h1_0) ?_
    refine o_y (v := .pointer (some ⟨gr, 0, none⟩)) rfl rfl (y_nilCheck rfl) ?_
    refine o_y (v := .pointer (some ⟨gr, 0, none⟩)) rfl rfl (y_fieldAddr (k := 0) rfl Try.underlying60 rfl rfl ⟨_, s57⟩ (by first | rfl | omega)) ?_
    refine o_y (v := .slice (some ⟨gL, 0, none⟩) (cs.length) (cs.length)) rfl rfl (y_load rfl Try.underlying57 rfl (Rd.one (k := 0) rfl rfl)) ?_
    refine o_y (v := .int .i64 (((cs.length : Nat) : Int))) rfl rfl (y_len rfl Try.underlying57) ?_
    refine o_y (v := .bool (decide (((j : Nat) : Int) < ((cs.length : Nat) : Int)))) rfl rfl (y_lss rfl rfl rfl) ?_
    refine o_nil ?_
    refine hK6 _ _ ?_
    refine c_cond (t := decide (((j : Nat) : Int) < ((cs.length : Nat) : Int))) rfl (fun hc1 => ?_) (fun hc1 => ?_)
    ·
      replace hc1 := of_decide_eq_true hc1
      -- way LT
      refine c_skip ?_
      refine hK5 _ _ ?_
      refine c_seq fun K7 hK7 => ?_
      refine c_block ?_
      refine c_seq fun K8 hK8 => ?_
      refine c_region ?_
      refine o_y (v := .pointer (some ⟨gr, 0, none⟩)) rfl rfl (y_move h1_0) ?_
      refine o_y (v := .pointer (some ⟨gr, 0, none⟩)) rfl rfl (y_nilCheck rfl) ?_
      refine o_y (v := .pointer (some ⟨gr, 0, none⟩)) rfl rfl (y_fieldAddr (k := 0) rfl Try.underlying60 rfl rfl ⟨_, s57⟩ (by first | rfl | omega)) ?_
      refine o_y (v := .slice (some ⟨gL, 0, none⟩) (cs.length) (cs.length)) rfl rfl (y_load rfl Try.underlying57 rfl (Rd.one (k := 0) rfl rfl)) ?_
      refine o_y (v := .int .i64 (((j : Nat) : Int))) rfl rfl (y_move h1_4) ?_
      refine o_y (v := .pointer (some ⟨gL, 0 + j * 66, none⟩)) rfl rfl (y_ixO j rfl rfl rfl Try.underlying57 s63 (by omega) (by first | omega | (simp; done) | (simp; omega))) ?_
      refine o_y (v := .pointer (some ⟨gL, 0 + j * 66 + 1, none⟩)) rfl rfl (y_fieldAddr (k := 1) rfl Try.underlying63 rfl rfl ⟨_, s4⟩ (by first | rfl | omega)) ?_
      refine o_y (v := .bool (((cs).getD j cel0).d)) rfl rfl (y_load rfl Try.underlying4 rfl (Rd.sub1 (k := 1) (SlG.rd' (SlG.row (k := 1) rfl hrow) (at_getD (by first | omega | (simp; done) | (simp; omega)))) (by show _ + _ * 66 + _ = _; omega) rfl)) ?_
      refine o_nil ?_
      refine hK8 _ _ ?_
      refine c_cond (t := ((cs).getD j cel0).d) rfl (fun hc2 => ?_) (fun hc2 => ?_)
      ·
        -- way LTT
        have hpk : (cs.getD j cel0).d = true := by simpa using hc2
        refine c_region ?_
        refine o_y (v := .slice (a) ((csel cs (j)).length) (cap)) rfl rfl (y_move h1_3) ?_
        refine o_y (v := .int .i64 (((j : Nat) : Int))) rfl rfl (y_move h1_4) ?_
        refine o_buildRow SL33 ([(((j : Nat) : Int))] : List Int) (fun x => .int .i64 x) (fun _ => rfl) rfl rfl (by rw [Array.toList_map]; rfl) (by simp) (by simp [eInt]) fun g1 cg1 hrg1 => ?_
        refine o_appendV SL33 ([(g1, .cells (cg1) 3 (0, 0)), (gr, .cells (#[.slice (some ⟨gL, 0, none⟩) (cs.length) (cs.length), .slice (aS) (sq.length) (capS)]) 60 (0, 0)), (gL, .cells (cL) 63 (0, 0))] ++ (Hs)) (fun Hy => [(g1, .cells (cg1) 3 (0, 0)), (gr, .cells (#[.slice (some ⟨gL, 0, none⟩) (cs.length) (cs.length), .slice (aS) (sq.length) (capS)]) 60 (0, 0)), (gL, .cells (cL) 63 (0, 0))] ++ (Hs ++ Hy)) rfl (fun Hy => by have h := List.perm_append_comm (l₁ := ([(g1, .cells (cg1) 3 (0, 0)), (gr, .cells (#[.slice (some ⟨gL, 0, none⟩) (cs.length) (cs.length), .slice (aS) (sq.length) (capS)]) 60 (0, 0)), (gL, .cells (cL) 63 (0, 0))] ++ (Hs) : Hp)) (l₂ := Hy); first | exact h | simpa [Value.cells] using h) (by have h := List.perm_append_comm_assoc ([(g1, .cells (cg1) 3 (0, 0)), (gr, .cells (#[.slice (some ⟨gL, 0, none⟩) (cs.length) (cs.length), .slice (aS) (sq.length) (capS)]) 60 (0, 0)), (gL, .cells (cL) 63 (0, 0))] ++ (Hs) : Hp) Hx ([] : Hp); first | exact h | simpa [Value.cells] using h) hv1_1 rfl (by first | omega | (simp; done) | (simp; omega)) rfl (by first | omega | (simp; done) | (simp; omega)) (SlG.row (k := 0) rfl hrg1) (by simp only [maxLen] <;> first | omega | (simp; done) | (simp; omega)) (by first | omega | (simp; done) | (simp; omega)) fun ap3 gp3 capp3 Hp3 hvp3 => ?_
        have hwp3 := hvp3
        rw [show (csel cs (j)) ++ ([(((j : Nat) : Int))]) = csel cs (j + 1) from csel_t' hpk] at hwp3
        refine o_y (v := .slice (ap3) (((csel cs (j)).length) + 1) (capp3)) rfl rfl (y_assign rfl) ?_
        refine o_nil ?_
        refine hK7 _ _ ?_
        refine c_region ?_
        refine o_y (v := .int .i64 (((j : Nat) : Int))) rfl rfl (y_move h1_4) ?_
        refine o_y (v := .int .i64 ((((j : Nat) : Int)) + 1)) rfl rfl (y_add rfl rfl (wi_i64 (by omega) (by omega))) ?_
        refine o_y (v := .int .i64 ((((j : Nat) : Int)) + 1)) rfl rfl (y_assign rfl) ?_
        refine o_forget (H' := [(gr, .cells (#[.slice (some ⟨gL, 0, none⟩) (cs.length) (cs.length), .slice (aS) (sq.length) (capS)]) 60 (0, 0)), (gL, .cells (cL) 63 (0, 0))] ++ (Hs ++ Hp3)) ((((List.Sublist.refl _).cons_cons _).cons_cons _).cons _) ?_
        refine o_nil ?_
        refine ⟨_, by omega, j + 1, ap3, gp3, capp3, Hp3, rfl, by omega, hwp3, h1_0, (ie (a := (((j : Nat) : Int)) + 1) (b := ((j + 1 : Nat) : Int)) (by omega)), (len_eq (by rw [← csel_t' hpk, List.length_append]; rfl)), rfl⟩
      ·
        -- way LTF
        have hpk : (cs.getD j cel0).d = false := by simpa using hc2
        refine c_skip ?_
        refine hK7 _ _ ?_
        refine c_region ?_
        refine o_y (v := .int .i64 (((j : Nat) : Int))) rfl rfl (y_move h1_4) ?_
        refine o_y (v := .int .i64 ((((j : Nat) : Int)) + 1)) rfl rfl (y_add rfl rfl (wi_i64 (by omega) (by omega))) ?_
        refine o_y (v := .int .i64 ((((j : Nat) : Int)) + 1)) rfl rfl (y_assign rfl) ?_
        refine o_nil ?_
        refine ⟨_, by omega, j + 1, a, g2, cap, Hx, rfl, by omega, (by rw [csel_f' hpk]; exact hv1_1), h1_0, (ie (a := (((j : Nat) : Int)) + 1) (b := ((j + 1 : Nat) : Int)) (by omega)), (by rw [csel_f' hpk]; assumption), rfl⟩
    ·
      replace hc1 := of_decide_eq_false hc1
      -- way LF
      refine c_exit ?_
      refine hK3 _ _ ?_
      refine c_seq fun K9 hK9 => ?_
      refine c_region ?_
      refine o_y (v := .slice (a) ((csel cs (j)).length) (cap)) rfl rfl (y_move h1_3) ?_
      refine o_y (v := .slice (a) ((csel cs (j)).length) (cap)) rfl rfl (y_assign rfl) ?_
      refine o_nil ?_
      refine hK9 _ _ ?_
      refine c_ret ?_
      refine fun w hw => ⟨[.slice (a) ((csel cs (j)).length) (cap)], ⟨rfl, trivial⟩, ?_⟩
      have hjj : j = cs.length := by omega
      subst hjj
      exact ⟨Hx, ⟨_, _, _, rfl, hv1_1⟩, ((((List.Sublist.refl _).cons_cons _).cons_cons _) : (([(gr, .cells (#[.slice (some ⟨gL, 0, none⟩) (cs.length) (cs.length), .slice (aS) (sq.length) (capS)]) 60 (0, 0)), (gL, .cells (cL) 63 (0, 0))] ++ (Hs) : Hp) ++ Hx).Sublist _)⟩
      first | done | rfl

end Go.Proofs.Ytediblifbfhahaa.Line
