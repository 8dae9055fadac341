/- Proved: what an act on both comes to, and that both tell alike; the conditions stand in the statements. -/
import Derived.Test.YtediblifbfhahaaLineH
set_option linter.unusedVariables false
set_option linter.unusedSimpArgs false
namespace Go.Proofs.Ytediblifbfhahaa.Line
open Go Go.RowKit Go.Proofs.Ytediblifbfhahaa.Eng

set_option maxRecDepth 100000 in
set_option maxHeartbeats 4000000 in
theorem f18_act (g : Nat) (s : LS) (gr : Nat) (cs : List Cel) (sq : List Int) (HR : Hp) (x : Act) (n : Nat) (w : World) (hR : RefS gr cs sq HR) (hrel : Rel s cs sq n) (hn : n < 1000) (hq : 0 ≤ x.q ∧ x.q ≤ 18446744073709551615) (hat : At ([(g, .cells (LS.enc (s)) 54 (0, 0))] ++ (HR)) w) :
    Calls Try.prog 18 [.pointer (some ⟨g, 0, none⟩), .pointer (some ⟨gr, 0, none⟩), .agg (Act.arr (x))].toArray w fun e w' => ∃ v H', e = .returned v ∧ St w (ids ([(g, .cells (LS.enc (s)) 54 (0, 0))] ++ (HR))) H' w' ∧ (fun v H => v = .bool true ∧ ∃ s' cs' sq' HR', H = [(g, .cells (LS.enc s') 54 (0, 0))] ++ HR' ∧ RefS gr cs' sq' HR' ∧ Rel s' cs' sq' (n + 1)) v H' := by
  have hm16 := hrel.mem'
  refine (calls_of (P := Try.prog) (n := 61) (w0 := w) (S := ids ([(g, .cells (LS.enc (s)) 54 (0, 0))] ++ (HR))) (H := [(g, .cells (LS.enc (s)) 54 (0, 0))] ++ (HR)) (T := fun v H => ∃ H1, (fun v H => v = .bool true ∧ ∃ s' cs' sq' HR', H = [(g, .cells (LS.enc s') 54 (0, 0))] ++ HR' ∧ RefS gr cs' sq' HR' ∧ Rel s' cs' sq' (n + 1)) v H1 ∧ (H1 : Hp).Sublist H) Try.func18 rfl Try.ntmps18 (Nat.le_of_ble_eq_true rfl) [.tmp 6] rfl hat.st ?_).mono fun e w' ⟨v, H', he, hs, H1, hT, hsub⟩ => ⟨v, H1, he, hs.drop hsub, hT⟩
  refine c_seq fun K1 hK1 => ?_
  refine c_region ?_
  refine o_box (v := .agg (Act.arr (x))) rfl rfl fun g1 => ?_
  refine o_perm (H' := [(g1, .cells (Act.arr (x)) 41 (0, 0)), (g, .cells (LS.enc (s)) 54 (0, 0))] ++ (HR)) (List.Perm.refl _) ?_
  refine o_y (v := .bool (false)) rfl rfl (y_assign rfl) ?_
  refine o_nil ?_
  refine hK1 _ _ ?_
  refine c_seq fun K2 hK2 => ?_
  refine c_seq fun K3 hK3 => ?_
  refine c_region ?_
  refine o_y (v := .pointer (some ⟨g1, 0, none⟩)) rfl rfl (y_fieldAddr (k := 0) rfl Try.underlying41 rfl rfl ⟨_, s3⟩ (by first | rfl | omega)) ?_
  refine o_y (v := .int .i64 ((x).a)) rfl rfl (y_load rfl Try.underlying3 rfl (Rd.one (k := 0) rfl (Act.at_a (x)))) ?_
  refine o_nil ?_
  refine hK3 _ _ ?_
  refine c_block ?_
  refine c_seq fun K4 hK4 => ?_
  refine c_region ?_
  refine o_y (v := .bool (decide ((x).a = 0))) rfl rfl (y_eql rfl rfl rfl) ?_
  refine o_y (v := .bool (decide ((x).a = 0))) rfl rfl (y_assign rfl) ?_
  refine o_nil ?_
  refine hK4 _ _ ?_
  refine c_cond (t := decide ((x).a = 0)) rfl (fun hc1 => ?_) (fun hc1 => ?_)
  ·
    replace hc1 := of_decide_eq_true hc1
    -- way T
    refine c_seq fun K5 hK5 => ?_
    refine c_drawF [0, 1, 2, 3, 4, 6, 7, 8, 9, 10] [5, 11, 12, 13] [0, 1, 2, 3, 4] (by kernel_rfl) (by kernel_rfl) ?_
    refine f_e (v := .pointer (some ⟨g, 0, none⟩)) rfl rfl (qn rfl (y_move rfl)) ?_
    refine f_e (v := .pointer (some ⟨g1, 1, none⟩)) rfl rfl (qn rfl (y_fieldAddr (k := 1) rfl Try.underlying41 rfl rfl ⟨_, s3⟩ (by first | rfl | omega))) ?_
    refine f_e (v := .int .i64 ((x).m)) rfl rfl (qn rfl (y_load rfl Try.underlying3 rfl (Rd.one (k := 0) rfl (Act.at_m (x))))) ?_
    refine f_e (v := .pointer (some ⟨g1, 2, none⟩)) rfl rfl (qn rfl (y_fieldAddr (k := 2) rfl Try.underlying41 rfl rfl ⟨_, s23⟩ (by first | rfl | omega))) ?_
    refine f_e (v := .agg (bv ((x).b))) rfl rfl (qn rfl (y_loadB T23 rfl (Rd.blk (List.mem_of_getElem? (i := 0) rfl) (fun jj vv hjj => Act.at_b (x) jj vv hjj)))) ?_
    refine f_l (v := .pointer (some ⟨gr, 0, none⟩)) rfl rfl (qn rfl (y_move rfl)) ?_
    refine f_l (v := .pointer (some ⟨g1, 1, none⟩)) rfl rfl (qn rfl (y_fieldAddr (k := 1) rfl Try.underlying41 rfl rfl ⟨_, s3⟩ (by first | rfl | omega))) ?_
    refine f_l (v := .int .i64 ((x).m)) rfl rfl (qn rfl (y_load rfl Try.underlying3 rfl (Rd.one (k := 0) rfl (Act.at_m (x))))) ?_
    refine f_l (v := .pointer (some ⟨g1, 2, none⟩)) rfl rfl (qn rfl (y_fieldAddr (k := 2) rfl Try.underlying41 rfl rfl ⟨_, s23⟩ (by first | rfl | omega))) ?_
    refine f_l (v := .agg (bv ((x).b))) rfl rfl (qn rfl (y_loadB T23 rfl (Rd.blk (List.mem_of_getElem? (i := 0) rfl) (fun jj vv hjj => Act.at_b (x) jj vv hjj)))) ?_
    refine f_nil ?_
    refine t_step rfl ?_
    refine o_callS ([(g, .cells (LS.enc (s)) 54 (0, 0))]) ([(g1, .cells (Act.arr (x)) 41 (0, 0))] ++ (HR)) (by have h := (List.perm_middle (l₁ := ([(g1, .cells (Act.arr (x)) 41 (0, 0))] : Hp)) (a := (g, Obj.cells (LS.enc (s)) 54 (0, 0))) (l₂ := ((HR) : Hp))); first | exact h | simpa [List.append_assoc] using h) (vs := [.pointer (some ⟨g, 0, none⟩), .int .i64 ((x).m), .agg (bv ((x).b))]) b8 rfl rfl (fun w hat => f8_Learn _ (s) ((x).m) ((x).b) w (by first | assumption | omega | exact lone_mem | (simp only [mem_learn, mem_set, mem_forget, mem_clean]; exact lone_mem) | (simp only [mem_learn, mem_set, mem_forget, mem_clean]; first | omega | decide | exact ⟨by decide, by decide⟩ | (constructor <;> (show _ ≤ _) <;> decide)) | exact ⟨by decide, by decide⟩) hat) ?_
    rintro _ _ ⟨rfl, rfl⟩
    refine o_nil ⟨rfl, ⟨qn rfl (y_loadB T23 rfl (Rd.blk (List.mem_of_getElem? (i := 1) rfl) (fun jj vv hjj => Act.at_b (x) jj vv hjj))), ⟨qn rfl (y_fieldAddr (k := 2) rfl Try.underlying41 rfl rfl ⟨_, s23⟩ (by first | rfl | omega)), ⟨qn rfl (y_load rfl Try.underlying3 rfl (Rd.one (k := 1) rfl (Act.at_m (x)))), ⟨qn rfl (y_fieldAddr (k := 1) rfl Try.underlying41 rfl rfl ⟨_, s3⟩ (by first | rfl | omega)), ⟨qn rfl (y_move rfl), trivial⟩⟩⟩⟩⟩, ?_⟩
    refine t_step rfl ?_
    refine o_callS ((HR)) ([(g, .cells (LS.enc (learnS (s) ((x).m) ((x).b))) 54 (0, 0)), (g1, .cells (Act.arr (x)) 41 (0, 0))]) (by have h := List.perm_append_comm_assoc ([(g, .cells (LS.enc (learnS (s) ((x).m) ((x).b))) 54 (0, 0)), (g1, .cells (Act.arr (x)) 41 (0, 0))] : Hp) HR ([] : Hp); first | exact h | simpa [List.append_assoc] using h) (vs := [.pointer (some ⟨gr, 0, none⟩), .int .i64 ((x).m), .agg (bv ((x).b))]) b22 rfl rfl (fun w hat => f22_RLearn gr (cs) (sq) _ ((x).m) ((x).b) w hR (by first | exact hrel.top | (simp only [lrn_len, setC_len, fgt_len, cln_len]; exact hrel.top))  hat) ?_
    rintro _ Hp3 ⟨rfl, hRp3⟩
    refine o_perm (H' := [(g, .cells (LS.enc (learnS (s) ((x).m) ((x).b))) 54 (0, 0)), (g1, .cells (Act.arr (x)) 41 (0, 0))] ++ (Hp3)) (by have h := (List.perm_append_comm_assoc ((Hp3)) ([(g, .cells (LS.enc (learnS (s) ((x).m) ((x).b))) 54 (0, 0)), (g1, .cells (Act.arr (x)) 41 (0, 0))] : Hp) ([] : Hp)).symm; first | exact h | exact List.Perm.append_left _ h | simpa [List.append_assoc] using h) ?_
    refine o_nil ⟨rfl, ⟨qn rfl (y_loadB T23 rfl (Rd.blk (List.mem_of_getElem? (i := 1) rfl) (fun jj vv hjj => Act.at_b (x) jj vv hjj))), ⟨qn rfl (y_fieldAddr (k := 2) rfl Try.underlying41 rfl rfl ⟨_, s23⟩ (by first | rfl | omega)), ⟨qn rfl (y_load rfl Try.underlying3 rfl (Rd.one (k := 1) rfl (Act.at_m (x)))), ⟨qn rfl (y_fieldAddr (k := 1) rfl Try.underlying41 rfl rfl ⟨_, s3⟩ (by first | rfl | omega)), ⟨qn rfl (y_move rfl), trivial⟩⟩⟩⟩⟩, ?_⟩
    refine t_step rfl ?_
    refine o_y (v := .bool (true)) rfl rfl (y_bool (y_eql rfl rfl rfl) (decide_eq_true (rel_ask hrel _))) ?_
    refine o_nil ⟨rfl, ⟨qn rfl (y_loadB T23 rfl (Rd.blk (List.mem_of_getElem? (i := 1) rfl) (fun jj vv hjj => Act.at_b (x) jj vv hjj))), ⟨qn rfl (y_fieldAddr (k := 2) rfl Try.underlying41 rfl rfl ⟨_, s23⟩ (by first | rfl | omega)), ⟨qn rfl (y_load rfl Try.underlying3 rfl (Rd.one (k := 1) rfl (Act.at_m (x)))), ⟨qn rfl (y_fieldAddr (k := 1) rfl Try.underlying41 rfl rfl ⟨_, s3⟩ (by first | rfl | omega)), ⟨qn rfl (y_move rfl), trivial⟩⟩⟩⟩⟩, ?_⟩
    refine t_step rfl ?_
    refine o_y (v := .bool (true)) rfl rfl (y_assign rfl) ?_
    refine o_nil ⟨rfl, ⟨qn rfl (y_loadB T23 rfl (Rd.blk (List.mem_of_getElem? (i := 1) rfl) (fun jj vv hjj => Act.at_b (x) jj vv hjj))), ⟨qn rfl (y_fieldAddr (k := 2) rfl Try.underlying41 rfl rfl ⟨_, s23⟩ (by first | rfl | omega)), ⟨qn rfl (y_load rfl Try.underlying3 rfl (Rd.one (k := 1) rfl (Act.at_m (x)))), ⟨qn rfl (y_fieldAddr (k := 1) rfl Try.underlying41 rfl rfl ⟨_, s3⟩ (by first | rfl | omega)), ⟨qn rfl (y_move rfl), trivial⟩⟩⟩⟩⟩, ?_⟩
    refine t_nil ?_
    refine hK5 _ _ ?_
    refine c_ret ?_
    refine fun w hw => ⟨[.bool (true)], ⟨rfl, trivial⟩, ?_⟩
    exact ⟨_, ⟨rfl, _, _, _, _, rfl, hRp3, rel_learn hrel _ _⟩, (((List.Sublist.refl _).cons _).cons_cons _)⟩
    first | done | rfl
  ·
    replace hc1 := of_decide_eq_false hc1
    -- way F
    refine c_seq fun K6 hK6 => ?_
    refine c_region ?_
    refine o_y (v := .bool (decide ((x).a = 1))) rfl rfl (y_eql rfl rfl rfl) ?_
    refine o_y (v := .bool (decide ((x).a = 1))) rfl rfl (y_assign rfl) ?_
    refine o_nil ?_
    refine hK6 _ _ ?_
    refine c_cond (t := decide ((x).a = 1)) rfl (fun hc2 => ?_) (fun hc2 => ?_)
    ·
      replace hc2 := of_decide_eq_true hc2
      -- way FT
      refine c_seq fun K7 hK7 => ?_
      refine c_drawF [0, 1, 2, 3, 4, 5, 6, 8, 9, 10, 11, 12, 13, 14] [7, 15, 16, 17] [0, 1, 2, 3, 4, 5, 6] (by kernel_rfl) (by kernel_rfl) ?_
      refine f_e (v := .pointer (some ⟨g, 0, none⟩)) rfl rfl (qn rfl (y_move rfl)) ?_
      refine f_e (v := .pointer (some ⟨g1, 1, none⟩)) rfl rfl (qn rfl (y_fieldAddr (k := 1) rfl Try.underlying41 rfl rfl ⟨_, s3⟩ (by first | rfl | omega))) ?_
      refine f_e (v := .int .i64 ((x).m)) rfl rfl (qn rfl (y_load rfl Try.underlying3 rfl (Rd.one (k := 0) rfl (Act.at_m (x))))) ?_
      refine f_e (v := .pointer (some ⟨g1, 2, none⟩)) rfl rfl (qn rfl (y_fieldAddr (k := 2) rfl Try.underlying41 rfl rfl ⟨_, s23⟩ (by first | rfl | omega))) ?_
      refine f_e (v := .agg (bv ((x).b))) rfl rfl (qn rfl (y_loadB T23 rfl (Rd.blk (List.mem_of_getElem? (i := 0) rfl) (fun jj vv hjj => Act.at_b (x) jj vv hjj)))) ?_
      refine f_e (v := .pointer (some ⟨g1, 66, none⟩)) rfl rfl (qn rfl (y_fieldAddr (k := 66) rfl Try.underlying41 rfl rfl ⟨_, s24⟩ (by first | rfl | omega))) ?_
      refine f_e (v := .int .u64 ((x).q)) rfl rfl (qn rfl (y_load rfl Try.underlying24 rfl (Rd.one (k := 0) rfl (Act.at_q (x))))) ?_
      refine f_l (v := .pointer (some ⟨gr, 0, none⟩)) rfl rfl (qn rfl (y_move rfl)) ?_
      refine f_l (v := .pointer (some ⟨g1, 1, none⟩)) rfl rfl (qn rfl (y_fieldAddr (k := 1) rfl Try.underlying41 rfl rfl ⟨_, s3⟩ (by first | rfl | omega))) ?_
      refine f_l (v := .int .i64 ((x).m)) rfl rfl (qn rfl (y_load rfl Try.underlying3 rfl (Rd.one (k := 0) rfl (Act.at_m (x))))) ?_
      refine f_l (v := .pointer (some ⟨g1, 2, none⟩)) rfl rfl (qn rfl (y_fieldAddr (k := 2) rfl Try.underlying41 rfl rfl ⟨_, s23⟩ (by first | rfl | omega))) ?_
      refine f_l (v := .agg (bv ((x).b))) rfl rfl (qn rfl (y_loadB T23 rfl (Rd.blk (List.mem_of_getElem? (i := 0) rfl) (fun jj vv hjj => Act.at_b (x) jj vv hjj)))) ?_
      refine f_l (v := .pointer (some ⟨g1, 66, none⟩)) rfl rfl (qn rfl (y_fieldAddr (k := 66) rfl Try.underlying41 rfl rfl ⟨_, s24⟩ (by first | rfl | omega))) ?_
      refine f_l (v := .int .u64 ((x).q)) rfl rfl (qn rfl (y_load rfl Try.underlying24 rfl (Rd.one (k := 0) rfl (Act.at_q (x))))) ?_
      refine f_nil ?_
      refine t_step rfl ?_
      refine o_callS ([(g, .cells (LS.enc (s)) 54 (0, 0))]) ([(g1, .cells (Act.arr (x)) 41 (0, 0))] ++ (HR)) (by have h := (List.perm_middle (l₁ := ([(g1, .cells (Act.arr (x)) 41 (0, 0))] : Hp)) (a := (g, Obj.cells (LS.enc (s)) 54 (0, 0))) (l₂ := ((HR) : Hp))); first | exact h | simpa [List.append_assoc] using h) (vs := [.pointer (some ⟨g, 0, none⟩), .int .i64 ((x).m), .agg (bv ((x).b)), .int .u64 ((x).q)]) b10 rfl rfl (fun w hat => f10_Set _ (s) ((x).m) ((x).b) ((x).q) w (by first | assumption | omega | exact lone_mem | (simp only [mem_learn, mem_set, mem_forget, mem_clean]; exact lone_mem) | (simp only [mem_learn, mem_set, mem_forget, mem_clean]; first | omega | decide | exact ⟨by decide, by decide⟩ | (constructor <;> (show _ ≤ _) <;> decide)) | exact ⟨by decide, by decide⟩) (by omega) (by omega) hat) ?_
      rintro _ _ ⟨rfl, rfl⟩
      refine o_nil ⟨rfl, ⟨qn rfl (y_load rfl Try.underlying24 rfl (Rd.one (k := 1) rfl (Act.at_q (x)))), ⟨qn rfl (y_fieldAddr (k := 66) rfl Try.underlying41 rfl rfl ⟨_, s24⟩ (by first | rfl | omega)), ⟨qn rfl (y_loadB T23 rfl (Rd.blk (List.mem_of_getElem? (i := 1) rfl) (fun jj vv hjj => Act.at_b (x) jj vv hjj))), ⟨qn rfl (y_fieldAddr (k := 2) rfl Try.underlying41 rfl rfl ⟨_, s23⟩ (by first | rfl | omega)), ⟨qn rfl (y_load rfl Try.underlying3 rfl (Rd.one (k := 1) rfl (Act.at_m (x)))), ⟨qn rfl (y_fieldAddr (k := 1) rfl Try.underlying41 rfl rfl ⟨_, s3⟩ (by first | rfl | omega)), ⟨qn rfl (y_move rfl), trivial⟩⟩⟩⟩⟩⟩⟩, ?_⟩
      refine t_step rfl ?_
      refine o_callS ((HR)) ([(g, .cells (LS.enc (setS (s) ((x).m) ((x).b) ((x).q))) 54 (0, 0)), (g1, .cells (Act.arr (x)) 41 (0, 0))]) (by have h := List.perm_append_comm_assoc ([(g, .cells (LS.enc (setS (s) ((x).m) ((x).b) ((x).q))) 54 (0, 0)), (g1, .cells (Act.arr (x)) 41 (0, 0))] : Hp) HR ([] : Hp); first | exact h | simpa [List.append_assoc] using h) (vs := [.pointer (some ⟨gr, 0, none⟩), .int .i64 ((x).m), .agg (bv ((x).b)), .int .u64 ((x).q)]) b23 rfl rfl (fun w hat => f23_RSet gr (cs) (sq) _ ((x).m) ((x).b) ((x).q) w hR (by first | exact hrel.top | (simp only [lrn_len, setC_len, fgt_len, cln_len]; exact hrel.top)) (by have h := hrel.len; omega) hat) ?_
      rintro _ Hp5 ⟨rfl, hRp5⟩
      refine o_perm (H' := [(g, .cells (LS.enc (setS (s) ((x).m) ((x).b) ((x).q))) 54 (0, 0)), (g1, .cells (Act.arr (x)) 41 (0, 0))] ++ (Hp5)) (by have h := (List.perm_append_comm_assoc ((Hp5)) ([(g, .cells (LS.enc (setS (s) ((x).m) ((x).b) ((x).q))) 54 (0, 0)), (g1, .cells (Act.arr (x)) 41 (0, 0))] : Hp) ([] : Hp)).symm; first | exact h | exact List.Perm.append_left _ h | simpa [List.append_assoc] using h) ?_
      refine o_nil ⟨rfl, ⟨qn rfl (y_load rfl Try.underlying24 rfl (Rd.one (k := 1) rfl (Act.at_q (x)))), ⟨qn rfl (y_fieldAddr (k := 66) rfl Try.underlying41 rfl rfl ⟨_, s24⟩ (by first | rfl | omega)), ⟨qn rfl (y_loadB T23 rfl (Rd.blk (List.mem_of_getElem? (i := 1) rfl) (fun jj vv hjj => Act.at_b (x) jj vv hjj))), ⟨qn rfl (y_fieldAddr (k := 2) rfl Try.underlying41 rfl rfl ⟨_, s23⟩ (by first | rfl | omega)), ⟨qn rfl (y_load rfl Try.underlying3 rfl (Rd.one (k := 1) rfl (Act.at_m (x)))), ⟨qn rfl (y_fieldAddr (k := 1) rfl Try.underlying41 rfl rfl ⟨_, s3⟩ (by first | rfl | omega)), ⟨qn rfl (y_move rfl), trivial⟩⟩⟩⟩⟩⟩⟩, ?_⟩
      refine t_step rfl ?_
      refine o_y (v := .bool (true)) rfl rfl (y_bool (y_eql rfl rfl rfl) (decide_eq_true (rel_setE hrel _ _))) ?_
      refine o_nil ⟨rfl, ⟨qn rfl (y_load rfl Try.underlying24 rfl (Rd.one (k := 1) rfl (Act.at_q (x)))), ⟨qn rfl (y_fieldAddr (k := 66) rfl Try.underlying41 rfl rfl ⟨_, s24⟩ (by first | rfl | omega)), ⟨qn rfl (y_loadB T23 rfl (Rd.blk (List.mem_of_getElem? (i := 1) rfl) (fun jj vv hjj => Act.at_b (x) jj vv hjj))), ⟨qn rfl (y_fieldAddr (k := 2) rfl Try.underlying41 rfl rfl ⟨_, s23⟩ (by first | rfl | omega)), ⟨qn rfl (y_load rfl Try.underlying3 rfl (Rd.one (k := 1) rfl (Act.at_m (x)))), ⟨qn rfl (y_fieldAddr (k := 1) rfl Try.underlying41 rfl rfl ⟨_, s3⟩ (by first | rfl | omega)), ⟨qn rfl (y_move rfl), trivial⟩⟩⟩⟩⟩⟩⟩, ?_⟩
      refine t_step rfl ?_
      refine o_y (v := .bool (true)) rfl rfl (y_assign rfl) ?_
      refine o_nil ⟨rfl, ⟨qn rfl (y_load rfl Try.underlying24 rfl (Rd.one (k := 1) rfl (Act.at_q (x)))), ⟨qn rfl (y_fieldAddr (k := 66) rfl Try.underlying41 rfl rfl ⟨_, s24⟩ (by first | rfl | omega)), ⟨qn rfl (y_loadB T23 rfl (Rd.blk (List.mem_of_getElem? (i := 1) rfl) (fun jj vv hjj => Act.at_b (x) jj vv hjj))), ⟨qn rfl (y_fieldAddr (k := 2) rfl Try.underlying41 rfl rfl ⟨_, s23⟩ (by first | rfl | omega)), ⟨qn rfl (y_load rfl Try.underlying3 rfl (Rd.one (k := 1) rfl (Act.at_m (x)))), ⟨qn rfl (y_fieldAddr (k := 1) rfl Try.underlying41 rfl rfl ⟨_, s3⟩ (by first | rfl | omega)), ⟨qn rfl (y_move rfl), trivial⟩⟩⟩⟩⟩⟩⟩, ?_⟩
      refine t_nil ?_
      refine hK7 _ _ ?_
      refine c_ret ?_
      refine fun w hw => ⟨[.bool (true)], ⟨rfl, trivial⟩, ?_⟩
      exact ⟨_, ⟨rfl, _, _, _, _, rfl, hRp5, rel_set hrel _ _ _ hq⟩, (((List.Sublist.refl _).cons _).cons_cons _)⟩
      first | done | rfl
    ·
      replace hc2 := of_decide_eq_false hc2
      -- way FF
      refine c_seq fun K8 hK8 => ?_
      refine c_region ?_
      refine o_y (v := .bool (decide ((x).a = 2))) rfl rfl (y_eql rfl rfl rfl) ?_
      refine o_y (v := .bool (decide ((x).a = 2))) rfl rfl (y_assign rfl) ?_
      refine o_nil ?_
      refine hK8 _ _ ?_
      refine c_cond (t := decide ((x).a = 2)) rfl (fun hc3 => ?_) (fun hc3 => ?_)
      ·
        replace hc3 := of_decide_eq_true hc3
        -- way FFT
        refine c_seq fun K9 hK9 => ?_
        refine c_drawF [0, 1, 2, 4, 5, 6] [3, 7, 8, 9] [0, 1, 2] (by kernel_rfl) (by kernel_rfl) ?_
        refine f_e (v := .pointer (some ⟨g, 0, none⟩)) rfl rfl (qn rfl (y_move rfl)) ?_
        refine f_e (v := .pointer (some ⟨g1, 1, none⟩)) rfl rfl (qn rfl (y_fieldAddr (k := 1) rfl Try.underlying41 rfl rfl ⟨_, s3⟩ (by first | rfl | omega))) ?_
        refine f_e (v := .int .i64 ((x).m)) rfl rfl (qn rfl (y_load rfl Try.underlying3 rfl (Rd.one (k := 0) rfl (Act.at_m (x))))) ?_
        refine f_l (v := .pointer (some ⟨gr, 0, none⟩)) rfl rfl (qn rfl (y_move rfl)) ?_
        refine f_l (v := .pointer (some ⟨g1, 1, none⟩)) rfl rfl (qn rfl (y_fieldAddr (k := 1) rfl Try.underlying41 rfl rfl ⟨_, s3⟩ (by first | rfl | omega))) ?_
        refine f_l (v := .int .i64 ((x).m)) rfl rfl (qn rfl (y_load rfl Try.underlying3 rfl (Rd.one (k := 0) rfl (Act.at_m (x))))) ?_
        refine f_nil ?_
        refine t_step rfl ?_
        refine o_callS ([(g, .cells (LS.enc (s)) 54 (0, 0))]) ([(g1, .cells (Act.arr (x)) 41 (0, 0))] ++ (HR)) (by have h := (List.perm_middle (l₁ := ([(g1, .cells (Act.arr (x)) 41 (0, 0))] : Hp)) (a := (g, Obj.cells (LS.enc (s)) 54 (0, 0))) (l₂ := ((HR) : Hp))); first | exact h | simpa [List.append_assoc] using h) (vs := [.pointer (some ⟨g, 0, none⟩), .int .i64 ((x).m)]) b15 rfl rfl (fun w hat => f15_Forget _ (s) ((x).m) w (by first | assumption | omega | exact lone_mem | (simp only [mem_learn, mem_set, mem_forget, mem_clean]; exact lone_mem) | (simp only [mem_learn, mem_set, mem_forget, mem_clean]; first | omega | decide | exact ⟨by decide, by decide⟩ | (constructor <;> (show _ ≤ _) <;> decide)) | exact ⟨by decide, by decide⟩) hat) ?_
        rintro _ _ ⟨rfl, rfl⟩
        refine o_nil ⟨rfl, ⟨qn rfl (y_load rfl Try.underlying3 rfl (Rd.one (k := 1) rfl (Act.at_m (x)))), ⟨qn rfl (y_fieldAddr (k := 1) rfl Try.underlying41 rfl rfl ⟨_, s3⟩ (by first | rfl | omega)), ⟨qn rfl (y_move rfl), trivial⟩⟩⟩, ?_⟩
        refine t_step rfl ?_
        refine o_callS ((HR)) ([(g, .cells (LS.enc (forgetS (s) ((x).m))) 54 (0, 0)), (g1, .cells (Act.arr (x)) 41 (0, 0))]) (by have h := List.perm_append_comm_assoc ([(g, .cells (LS.enc (forgetS (s) ((x).m))) 54 (0, 0)), (g1, .cells (Act.arr (x)) 41 (0, 0))] : Hp) HR ([] : Hp); first | exact h | simpa [List.append_assoc] using h) (vs := [.pointer (some ⟨gr, 0, none⟩), .int .i64 ((x).m)]) b24 rfl rfl (fun w hat => f24_RForget gr (cs) (sq) _ ((x).m) w hR (by first | exact hrel.top | (simp only [lrn_len, setC_len, fgt_len, cln_len]; exact hrel.top))  hat) ?_
        rintro _ Hp7 ⟨rfl, hRp7⟩
        refine o_perm (H' := [(g, .cells (LS.enc (forgetS (s) ((x).m))) 54 (0, 0)), (g1, .cells (Act.arr (x)) 41 (0, 0))] ++ (Hp7)) (by have h := (List.perm_append_comm_assoc ((Hp7)) ([(g, .cells (LS.enc (forgetS (s) ((x).m))) 54 (0, 0)), (g1, .cells (Act.arr (x)) 41 (0, 0))] : Hp) ([] : Hp)).symm; first | exact h | exact List.Perm.append_left _ h | simpa [List.append_assoc] using h) ?_
        refine o_nil ⟨rfl, ⟨qn rfl (y_load rfl Try.underlying3 rfl (Rd.one (k := 1) rfl (Act.at_m (x)))), ⟨qn rfl (y_fieldAddr (k := 1) rfl Try.underlying41 rfl rfl ⟨_, s3⟩ (by first | rfl | omega)), ⟨qn rfl (y_move rfl), trivial⟩⟩⟩, ?_⟩
        refine t_step rfl ?_
        refine o_y (v := .bool (true)) rfl rfl (y_bool (y_eql rfl rfl rfl) (decide_eq_true (rel_ask hrel _))) ?_
        refine o_nil ⟨rfl, ⟨qn rfl (y_load rfl Try.underlying3 rfl (Rd.one (k := 1) rfl (Act.at_m (x)))), ⟨qn rfl (y_fieldAddr (k := 1) rfl Try.underlying41 rfl rfl ⟨_, s3⟩ (by first | rfl | omega)), ⟨qn rfl (y_move rfl), trivial⟩⟩⟩, ?_⟩
        refine t_step rfl ?_
        refine o_y (v := .bool (true)) rfl rfl (y_assign rfl) ?_
        refine o_nil ⟨rfl, ⟨qn rfl (y_load rfl Try.underlying3 rfl (Rd.one (k := 1) rfl (Act.at_m (x)))), ⟨qn rfl (y_fieldAddr (k := 1) rfl Try.underlying41 rfl rfl ⟨_, s3⟩ (by first | rfl | omega)), ⟨qn rfl (y_move rfl), trivial⟩⟩⟩, ?_⟩
        refine t_nil ?_
        refine hK9 _ _ ?_
        refine c_ret ?_
        refine fun w hw => ⟨[.bool (true)], ⟨rfl, trivial⟩, ?_⟩
        exact ⟨_, ⟨rfl, _, _, _, _, rfl, hRp7, rel_forget hrel _⟩, (((List.Sublist.refl _).cons _).cons_cons _)⟩
        first | done | rfl
      ·
        replace hc3 := of_decide_eq_false hc3
        -- way FFF
        refine c_seq fun K10 hK10 => ?_
        refine c_region ?_
        refine o_y (v := .bool (decide ((x).a = 3))) rfl rfl (y_eql rfl rfl rfl) ?_
        refine o_y (v := .bool (decide ((x).a = 3))) rfl rfl (y_assign rfl) ?_
        refine o_nil ?_
        refine hK10 _ _ ?_
        refine c_cond (t := decide ((x).a = 3)) rfl (fun hc4 => ?_) (fun hc4 => ?_)
        ·
          replace hc4 := of_decide_eq_true hc4
          -- way FFFT
          refine c_seq fun K11 hK11 => ?_
          refine c_region ?_
          refine o_y (v := .pointer (some ⟨gr, 0, none⟩)) rfl rfl (y_move rfl) ?_
          refine o_callS ((HR)) ([(g1, .cells (Act.arr (x)) 41 (0, 0)), (g, .cells (LS.enc (s)) 54 (0, 0))]) (by have h := List.perm_append_comm_assoc ([(g1, .cells (Act.arr (x)) 41 (0, 0)), (g, .cells (LS.enc (s)) 54 (0, 0))] : Hp) HR ([] : Hp); first | exact h | simpa [List.append_assoc] using h) (vs := [.pointer (some ⟨gr, 0, none⟩)]) b25 rfl rfl (fun w hat => f25_RClean gr (cs) (sq) _  w hR (by first | exact hrel.top | (simp only [lrn_len, setC_len, fgt_len, cln_len]; exact hrel.top))  hat) ?_
          rintro _ Hp8 ⟨rfl, hRp8⟩
          refine o_perm (H' := [(g1, .cells (Act.arr (x)) 41 (0, 0)), (g, .cells (LS.enc (s)) 54 (0, 0))] ++ (Hp8)) (by have h := (List.perm_append_comm_assoc ((Hp8)) ([(g1, .cells (Act.arr (x)) 41 (0, 0)), (g, .cells (LS.enc (s)) 54 (0, 0))] : Hp) ([] : Hp)).symm; first | exact h | exact List.Perm.append_left _ h | simpa [List.append_assoc] using h) ?_
          refine o_nil ?_
          refine hK11 _ _ ?_
          refine c_seq fun K12 hK12 => ?_
          refine c_region ?_
          refine o_y (v := .pointer (some ⟨g, 0, none⟩)) rfl rfl (y_move rfl) ?_
          refine o_callS ([(g, .cells (LS.enc (s)) 54 (0, 0))]) ([(g1, .cells (Act.arr (x)) 41 (0, 0))] ++ (Hp8)) (by have h := (List.perm_middle (l₁ := ([(g1, .cells (Act.arr (x)) 41 (0, 0))] : Hp)) (a := (g, Obj.cells (LS.enc (s)) 54 (0, 0))) (l₂ := ((Hp8) : Hp))); first | exact h | simpa [List.append_assoc] using h) (vs := [.pointer (some ⟨g, 0, none⟩)]) b13 rfl rfl (fun w hat => f13_Clean _ (s)  w  hat) ?_
          rintro _ _ ⟨rfl, rfl⟩
          refine o_y (v := .bool (true)) rfl rfl (y_bool (y_eql rfl rfl rfl) (decide_eq_true (rel_cleanE hrel))) ?_
          refine o_y (v := .bool (true)) rfl rfl (y_assign rfl) ?_
          refine o_nil ?_
          refine hK12 _ _ ?_
          refine c_ret ?_
          refine fun w hw => ⟨[.bool (true)], ⟨rfl, trivial⟩, ?_⟩
          exact ⟨_, ⟨rfl, _, _, _, _, rfl, hRp8, rel_clean hrel⟩, (((List.Sublist.refl _).cons _).cons_cons _)⟩
          first | done | rfl
        ·
          replace hc4 := of_decide_eq_false hc4
          -- way FFFF
          refine c_skip ?_
          refine hK2 _ _ ?_
          refine c_seq fun K13 hK13 => ?_
          refine c_region ?_
          refine o_y (v := .bool (true)) rfl rfl (y_assign rfl) ?_
          refine o_nil ?_
          refine hK13 _ _ ?_
          refine c_ret ?_
          refine fun w hw => ⟨[.bool (true)], ⟨rfl, trivial⟩, ?_⟩
          exact ⟨_, ⟨rfl, _, _, _, _, rfl, hR, rel_up hrel⟩, (((List.Sublist.refl _).cons_cons _).cons _)⟩
          first | done | rfl

set_option maxRecDepth 100000 in
set_option maxHeartbeats 4000000 in
theorem f19_alike (g : Nat) (s : LS) (gr : Nat) (cs : List Cel) (sq : List Int) (HR : Hp) (n : Nat) (w : World) (hR : RefS gr cs sq HR) (hrel : Rel s cs sq n) (hn : n < 1000) (hat : At (([(g, .cells (LS.enc s) 54 (0, 0))] ++ HR : Hp)) w) :
    Calls Try.prog 19 [.pointer (some ⟨g, 0, none⟩), .pointer (some ⟨gr, 0, none⟩)].toArray w fun e w' => e = .returned (.bool (true)) ∧ Below w.heap.size w w' := by
  have hR0 := hR
  obtain ⟨gL, cL, aS, gs, capS, Hs, rfl, hrow, hown⟩ := hR
  have hm16 := hrel.mem'
  have htop := hrel.top
  refine (calls_of (P := Try.prog) (n := 61) (w0 := w) (S := ids ([(g, .cells (LS.enc (s)) 54 (0, 0)), (gr, .cells (#[.slice (some ⟨gL, 0, none⟩) (cs.length) (cs.length), .slice (aS) (sq.length) (capS)]) 60 (0, 0)), (gL, .cells (cL) 63 (0, 0))] ++ (Hs))) (H := [(g, .cells (LS.enc (s)) 54 (0, 0)), (gr, .cells (#[.slice (some ⟨gL, 0, none⟩) (cs.length) (cs.length), .slice (aS) (sq.length) (capS)]) 60 (0, 0)), (gL, .cells (cL) 63 (0, 0))] ++ (Hs)) (T := fun v H => v = (.bool (true)) ∧ ([(g, .cells (LS.enc (s)) 54 (0, 0)), (gr, .cells (#[.slice (some ⟨gL, 0, none⟩) (cs.length) (cs.length), .slice (aS) (sq.length) (capS)]) 60 (0, 0)), (gL, .cells (cL) 63 (0, 0))] ++ (Hs) : Hp).Sublist H) Try.func19 rfl Try.ntmps19 (Nat.le_of_ble_eq_true rfl) [.tmp 4] rfl hat.st ?_).mono fun e w' ⟨v, H', he, hs, hT, hsub⟩ => ⟨by rw [he, hT], St.same hat hs hsub⟩
  refine c_seq fun K1 hK1 => ?_
  refine c_region ?_
  refine o_y (v := .bool (false)) rfl rfl (y_assign rfl) ?_
  refine o_nil ?_
  refine hK1 _ _ ?_
  refine c_seq fun K2 hK2 => ?_
  refine c_seq fun K3 hK3 => ?_
  refine c_region ?_
  refine o_y (v := .int .i64 (-1)) rfl rfl (y_assign rfl) ?_
  refine o_nil ?_
  refine hK3 _ _ ?_
  refine c_block ?_
  refine c_loop (fun d R H => ∃ (j : Nat), d = cs.length + 2 - (j) ∧ (j ≤ cs.length + 2) ∧ R 0 = .pointer (some ⟨g, 0, none⟩) ∧ R 1 = .pointer (some ⟨gr, 0, none⟩) ∧ R 5 = .int .i64 (((j : Nat) : Int) - 1) ∧ H = ([(g, .cells (LS.enc (s)) 54 (0, 0)), (gr, .cells (#[.slice (some ⟨gL, 0, none⟩) (cs.length) (cs.length), .slice (aS) (sq.length) (capS)]) 60 (0, 0)), (gL, .cells (cL) 63 (0, 0))] ++ (Hs) : Hp)) (cs.length + 2 - (0)) ?_ ?_
  ·
    refine ⟨0, rfl, by omega, rfl, rfl, (ie (a := -1) (b := ((0 : Nat) : Int) - 1) (by omega)), rfl⟩
  ·
    rintro d1 R1 _ ⟨j, hd1, hv1_0, h1_0, h1_1, h1_5, rfl⟩
    refine c_seq fun K4 hK4 => ?_
    refine c_seq fun K5 hK5 => ?_
    refine c_region ?_
    refine o_y (v := .int .i64 (((j : Nat) : Int) - 1)) rfl rfl (y_move h1_5) ?_
    refine o_y (v := .pointer (some ⟨gr, 0, none⟩)) rfl rfl (y_move h1_1) ?_
    refine o_y (v := .pointer (some ⟨gr, 0, none⟩)) rfl rfl (y_nilCheck rfl) ?_
    refine o_y (v := .pointer (some ⟨gr, 0, none⟩)) rfl rfl (y_fieldAddr (k := 0) rfl Try.underlying60 rfl rfl ⟨_, s57⟩ (by first | rfl | omega)) ?_
    refine o_y (v := .slice (some ⟨gL, 0, none⟩) (cs.length) (cs.length)) rfl rfl (y_load rfl Try.underlying57 rfl (Rd.one (k := 1) rfl rfl)) ?_
    refine o_y (v := .int .i64 (((cs.length : Nat) : Int))) rfl rfl (y_len rfl Try.underlying57) ?_
    refine o_y (v := .bool (decide (((j : Nat) : Int) - 1 ≤ ((cs.length : Nat) : Int)))) rfl rfl (y_leq rfl rfl rfl) ?_
    refine o_nil ?_
    refine hK5 _ _ ?_
    refine c_cond (t := decide (((j : Nat) : Int) - 1 ≤ ((cs.length : Nat) : Int))) rfl (fun hc1 => ?_) (fun hc1 => ?_)
    ·
      replace hc1 := of_decide_eq_true hc1
      -- way LT
      refine c_skip ?_
      refine hK4 _ _ ?_
      refine c_seq fun K6 hK6 => ?_
      refine c_block ?_
      refine c_seq fun K7 hK7 => ?_
      refine c_region ?_
      refine o_y (v := .pointer (some ⟨g, 0, none⟩)) rfl rfl (y_move h1_0) ?_
      refine o_y (v := .int .i64 (((j : Nat) : Int) - 1)) rfl rfl (y_move h1_5) ?_
      refine o_y (v := .tuple #[.agg (bv (getV (s) (((j : Nat) : Int) - 1))), .bool (getK (s) (((j : Nat) : Int) - 1))]) rfl rfl (y_call (vs := [.pointer (some ⟨g, 0, none⟩), .int .i64 (((j : Nat) : Int) - 1)]) b9 rfl (fun w hw => f9_Get _ (s) (((j : Nat) : Int) - 1) w (by first | assumption | omega | exact lone_mem | (simp only [mem_learn, mem_set, mem_forget, mem_clean]; exact lone_mem) | (simp only [mem_learn, mem_set, mem_forget, mem_clean]; first | omega | decide | exact ⟨by decide, by decide⟩ | (constructor <;> (show _ ≤ _) <;> decide)) | exact ⟨by decide, by decide⟩) (hw.sat ((((List.nil_sublist _).cons _).cons _).cons_cons _)))) ?_
      refine o_y (v := .tuple #[.agg (bv (getV (s) (((j : Nat) : Int) - 1))), .bool (getK (s) (((j : Nat) : Int) - 1))]) rfl rfl (y_move rfl) ?_
      refine o_y (v := .agg (bv (getV (s) (((j : Nat) : Int) - 1)))) rfl rfl (y_extract (vs := #[.agg (bv (getV (s) (((j : Nat) : Int) - 1))), .bool (getK (s) (((j : Nat) : Int) - 1))]) rfl rfl) ?_
      refine o_y (v := .bool (getK (s) (((j : Nat) : Int) - 1))) rfl rfl (y_extract (vs := #[.agg (bv (getV (s) (((j : Nat) : Int) - 1))), .bool (getK (s) (((j : Nat) : Int) - 1))]) rfl rfl) ?_
      refine o_alloc (z := .agg (bv (zB))) rfl z23 fun g1 => ?_
      refine o_storeB (H' := [(g1, .cells (bv (getV (s) (((j : Nat) : Int) - 1))) 23 (0, 0)), (g, .cells (LS.enc (s)) 54 (0, 0)), (gr, .cells (#[.slice (some ⟨gL, 0, none⟩) (cs.length) (cs.length), .slice (aS) (sq.length) (capS)]) 60 (0, 0)), (gL, .cells (cL) 63 (0, 0))] ++ (Hs)) T23 0 rfl rfl rfl rfl ?_
      refine o_y (v := .bool (getK (s) (((j : Nat) : Int) - 1))) rfl rfl (y_assign rfl) ?_
      refine o_nil ?_
      refine hK7 _ _ ?_
      refine c_seq fun K8 hK8 => ?_
      refine c_region ?_
      refine o_y (v := .pointer (some ⟨gr, 0, none⟩)) rfl rfl (y_move h1_1) ?_
      refine o_y (v := .int .i64 (((j : Nat) : Int) - 1)) rfl rfl (y_move h1_5) ?_
      refine o_y (v := .tuple #[.agg (bv (gtB cs (((j : Nat) : Int) - 1))), .bool (gtK cs (((j : Nat) : Int) - 1))]) rfl rfl (y_call (vs := [.pointer (some ⟨gr, 0, none⟩), .int .i64 (((j : Nat) : Int) - 1)]) b26 rfl (fun w hw => f26_RGet gr cs sq _ (((j : Nat) : Int) - 1) w hR0 hrel.top (hw.sat (((((List.Sublist.refl _).cons_cons _).cons_cons _).cons _).cons _)))) ?_
      refine o_y (v := .tuple #[.agg (bv (gtB cs (((j : Nat) : Int) - 1))), .bool (gtK cs (((j : Nat) : Int) - 1))]) rfl rfl (y_move rfl) ?_
      refine o_y (v := .agg (bv (gtB cs (((j : Nat) : Int) - 1)))) rfl rfl (y_extract (vs := #[.agg (bv (gtB cs (((j : Nat) : Int) - 1))), .bool (gtK cs (((j : Nat) : Int) - 1))]) rfl rfl) ?_
      refine o_y (v := .bool (gtK cs (((j : Nat) : Int) - 1))) rfl rfl (y_extract (vs := #[.agg (bv (gtB cs (((j : Nat) : Int) - 1))), .bool (gtK cs (((j : Nat) : Int) - 1))]) rfl rfl) ?_
      refine o_alloc (z := .agg (bv (zB))) rfl z23 fun g2 => ?_
      refine o_storeB (H' := [(g2, .cells (bv (gtB cs (((j : Nat) : Int) - 1))) 23 (0, 0)), (g1, .cells (bv (getV (s) (((j : Nat) : Int) - 1))) 23 (0, 0)), (g, .cells (LS.enc (s)) 54 (0, 0)), (gr, .cells (#[.slice (some ⟨gL, 0, none⟩) (cs.length) (cs.length), .slice (aS) (sq.length) (capS)]) 60 (0, 0)), (gL, .cells (cL) 63 (0, 0))] ++ (Hs)) T23 0 rfl rfl rfl rfl ?_
      refine o_y (v := .bool (gtK cs (((j : Nat) : Int) - 1))) rfl rfl (y_assign rfl) ?_
      refine o_nil ?_
      refine hK8 _ _ ?_
      refine c_seq fun K9 hK9 => ?_
      refine c_region ?_
      refine o_y (v := .agg (bv (getV (s) (((j : Nat) : Int) - 1)))) rfl rfl (y_loadB T23 rfl (Rd.whole (k := 1) rfl)) ?_
      refine o_y (v := .agg (bv (gtB cs (((j : Nat) : Int) - 1)))) rfl rfl (y_loadB T23 rfl (Rd.whole (k := 0) rfl)) ?_
      refine o_y (v := .bool (false)) rfl rfl (y_bool (y_neqV T23 rfl rfl) (decide_eq_false (fun h => h (rel_get hrel _).1))) ?_
      refine o_y (v := .bool (false)) rfl rfl (y_move rfl) ?_
      refine o_guard (j := 3) (d := 34) (b := false) rfl rfl rfl (fun _ => ?_) rfl (fun h => by cases h)
      refine o_y (v := .bool (getK (s) (((j : Nat) : Int) - 1))) rfl rfl (y_move rfl) ?_
      refine o_guard (j := 3) (d := 34) (b := false) rfl rfl rfl (fun _ => ?_) rfl (fun h => by cases h)
      refine o_y (v := .bool (gtK cs (((j : Nat) : Int) - 1))) rfl rfl (y_move rfl) ?_
      refine o_guard (j := 3) (d := 34) (b := false) rfl rfl rfl (fun _ => ?_) rfl (fun h => by cases h)
      refine o_y (v := .bool (false)) rfl rfl (y_bool (y_neqB rfl rfl Try.underlying4 rfl) (by rw [(rel_get hrel _).2]; exact bne_self_eq_false _)) ?_
      refine o_y (v := .bool (false)) rfl rfl (y_pick (b := false) rfl rfl) ?_
      refine o_nil ?_
      refine hK9 _ _ ?_
      refine c_cond (t := false) rfl (fun h => by cases h) (fun _ => ?_)
      refine c_skip ?_
      refine hK6 _ _ ?_
      refine c_region ?_
      refine o_y (v := .int .i64 (((j : Nat) : Int) - 1)) rfl rfl (y_move h1_5) ?_
      refine o_y (v := .int .i64 ((((j : Nat) : Int) - 1) + 1)) rfl rfl (y_add rfl rfl (wi_i64 (by omega) (by omega))) ?_
      refine o_y (v := .int .i64 ((((j : Nat) : Int) - 1) + 1)) rfl rfl (y_assign rfl) ?_
      refine o_forget (H' := [(g, .cells (LS.enc (s)) 54 (0, 0)), (gr, .cells (#[.slice (some ⟨gL, 0, none⟩) (cs.length) (cs.length), .slice (aS) (sq.length) (capS)]) 60 (0, 0)), (gL, .cells (cL) 63 (0, 0))] ++ (Hs)) ((((((List.Sublist.refl _).cons_cons _).cons_cons _).cons_cons _).cons _).cons _) ?_
      refine o_nil ?_
      refine ⟨_, by omega, j + 1, rfl, by omega, h1_0, h1_1, (ie (a := (((j : Nat) : Int) - 1) + 1) (b := ((j + 1 : Nat) : Int) - 1) (by omega)), rfl⟩
    ·
      replace hc1 := of_decide_eq_false hc1
      -- way LF
      refine c_exit ?_
      refine hK2 _ _ ?_
      refine c_seq fun K10 hK10 => ?_
      refine c_drawF [0, 1, 2, 3, 4, 5, 6, 7, 8, 9, 10, 11, 12, 13, 14, 15, 16, 18] [17, 19, 20, 21, 22] [0, 1, 2, 3, 4, 5, 6, 7, 8, 9, 10, 11, 12, 13, 14, 15, 16] (by kernel_rfl) (by kernel_rfl) ?_
      refine f_e (v := .pointer (some ⟨g, 0, none⟩)) rfl rfl (qn rfl (y_move h1_0)) ?_
      refine f_e (v := .int .i64 ((s).mem)) rfl rfl (qn rfl (y_call (vs := [.pointer (some ⟨g, 0, none⟩)]) b20 rfl (fun w hw => f20_Members _ (s) w (hw.sat ((((List.nil_sublist _).cons _).cons _).cons_cons _))))) ?_
      refine f_e (v := .pointer (some ⟨gr, 0, none⟩)) rfl rfl (qn rfl (y_move h1_1)) ?_
      refine f_e (v := .pointer (some ⟨gr, 0, none⟩)) rfl rfl (qn rfl (y_nilCheck rfl)) ?_
      refine f_e (v := .pointer (some ⟨gr, 0, none⟩)) rfl rfl (qn rfl (y_fieldAddr (k := 0) rfl Try.underlying60 rfl rfl ⟨_, s57⟩ (by first | rfl | omega))) ?_
      refine f_e (v := .slice (some ⟨gL, 0, none⟩) (cs.length) (cs.length)) rfl rfl (qn rfl (y_load rfl Try.underlying57 rfl (Rd.one (k := 1) rfl rfl))) ?_
      refine f_e (v := .int .i64 (((cs.length : Nat) : Int))) rfl rfl (qn rfl (y_len rfl Try.underlying57)) ?_
      refine f_e (v := .bool (true)) rfl rfl (qn rfl (y_bool (y_eql rfl rfl rfl) (decide_eq_true hrel.mem))) ?_
      refine f_e (v := .bool (true)) rfl rfl (qn rfl (y_move rfl)) ?_
      refine f_e (v := .pointer (some ⟨g, 0, none⟩)) rfl rfl (qt (j := 8) (d := 47) rfl rfl rfl (y_move h1_0)) ?_
      refine f_e (v := .int .u64 ((s).fs)) rfl rfl (qt (j := 8) (d := 47) rfl rfl rfl (y_call (vs := [.pointer (some ⟨g, 0, none⟩)]) b16 rfl (fun w hw => f16_First _ (s) w (hw.sat ((((List.nil_sublist _).cons _).cons _).cons_cons _))))) ?_
      refine f_e (v := .pointer (some ⟨gr, 0, none⟩)) rfl rfl (qt (j := 8) (d := 47) rfl rfl rfl (y_move h1_1)) ?_
      refine f_e (v := .int .u64 (leastQ sq)) rfl rfl (qt (j := 8) (d := 47) rfl rfl rfl (y_call (vs := [.pointer (some ⟨gr, 0, none⟩)]) b27 rfl (fun w hw => f27_RFirst gr cs sq _ w hR0 hrel.top (by have h := hrel.len; omega) (hw.sat ((((List.Sublist.refl _).cons_cons _).cons_cons _).cons _))))) ?_
      refine f_e (v := .bool (true)) rfl rfl (qt (j := 8) (d := 47) rfl rfl rfl (y_bool (y_eql rfl rfl rfl) (decide_eq_true hrel.fs))) ?_
      refine f_e (v := .bool (true)) rfl rfl (qn rfl (y_pick (b := true) rfl rfl)) ?_
      refine f_e (v := .bool (true)) rfl rfl (qn rfl (y_move rfl)) ?_
      refine f_e (v := .pointer (some ⟨g, 0, none⟩)) rfl rfl (qt (j := 15) (d := 54) rfl rfl rfl (y_move h1_0)) ?_
      refine f_l (v := .pointer (some ⟨gr, 0, none⟩)) rfl rfl (qt (j := 15) (d := 54) rfl rfl rfl (y_move h1_1)) ?_
      refine f_nil ?_
      refine t_step rfl ?_
      refine o_guard (j := 15) (d := 54) (b := true) rfl rfl rfl (fun _ => ?_) rfl (fun h => by cases h)
      refine o_callV (fun Hy => [(g, .cells (LS.enc (s)) 54 (0, 0)), (gr, .cells (#[.slice (some ⟨gL, 0, none⟩) (cs.length) (cs.length), .slice (aS) (sq.length) (capS)]) 60 (0, 0)), (gL, .cells (cL) 63 (0, 0))] ++ (Hs ++ Hy)) (fun Hy => by have h := List.perm_append_comm (l₁ := ([(g, .cells (LS.enc (s)) 54 (0, 0)), (gr, .cells (#[.slice (some ⟨gL, 0, none⟩) (cs.length) (cs.length), .slice (aS) (sq.length) (capS)]) 60 (0, 0)), (gL, .cells (cL) 63 (0, 0))] ++ (Hs) : Hp)) (l₂ := Hy); first | exact h | simpa [Value.cells] using h) (vs := [.pointer (some ⟨g, 0, none⟩)]) b11 rfl rfl (fun w hw => f11_Dirty _ (s) w (by first | assumption | omega | exact lone_mem | (simp only [mem_learn, mem_set, mem_forget, mem_clean]; exact lone_mem) | (simp only [mem_learn, mem_set, mem_forget, mem_clean]; first | omega | decide | exact ⟨by decide, by decide⟩ | (constructor <;> (show _ ≤ _) <;> decide)) | exact ⟨by decide, by decide⟩) (hw.sat ((((List.nil_sublist _).cons _).cons _).cons_cons _))) ?_
      rintro _ Hp3 ⟨ap3, gp3, capp3, rfl, hvp3⟩
      have hzp3 := hvp3.le
      have hyp3 := hvp3.mx
      simp only [maxLen] at hyp3
      refine o_nil ⟨rfl, ⟨qt (j := 15) (d := 54) rfl rfl rfl (y_move h1_1), trivial⟩, ?_⟩
      refine t_step rfl ?_
      refine o_guard (j := 15) (d := 54) (b := true) rfl rfl rfl (fun _ => ?_) rfl (fun h => by cases h)
      refine o_callV (fun Hy => [(g, .cells (LS.enc (s)) 54 (0, 0)), (gr, .cells (#[.slice (some ⟨gL, 0, none⟩) (cs.length) (cs.length), .slice (aS) (sq.length) (capS)]) 60 (0, 0)), (gL, .cells (cL) 63 (0, 0))] ++ (Hs ++ (Hp3 ++ Hy))) (fun Hy => by have h := List.perm_append_comm (l₁ := ([(g, .cells (LS.enc (s)) 54 (0, 0)), (gr, .cells (#[.slice (some ⟨gL, 0, none⟩) (cs.length) (cs.length), .slice (aS) (sq.length) (capS)]) 60 (0, 0)), (gL, .cells (cL) 63 (0, 0))] ++ (Hs ++ Hp3) : Hp)) (l₂ := Hy); first | exact h | simpa [Value.cells] using h) (vs := [.pointer (some ⟨gr, 0, none⟩)]) b28 rfl rfl (fun w hw => f28_RDirty gr cs sq _ w hR0 hrel.top (hw.sat ((((List.sublist_append_left _ _).cons_cons _).cons_cons _).cons _))) ?_
      rintro _ Hp4 ⟨ap4, gp4, capp4, rfl, hvp4⟩
      have hzp4 := hvp4.le
      have hyp4 := hvp4.mx
      simp only [maxLen] at hyp4
      refine o_nil ⟨rfl, ⟨qt (j := 15) (d := 54) rfl rfl rfl (y_move h1_1), trivial⟩, ?_⟩
      refine t_step rfl ?_
      refine o_guard (j := 15) (d := 54) (b := true) rfl rfl rfl (fun _ => ?_) rfl (fun h => by cases h)
      refine o_y (v := .bool (true)) rfl rfl (y_bool (y_call (vs := [.slice (ap3) ((dirtyL (s)).length) (capp3), .slice (ap4) ((csel cs cs.length).length) (capp4)]) b14 rfl (fun w hw => f14_Ints (dirtyL (s)) (csel cs cs.length) _ _ _ _ _ _ _ _ _ _ w (by first | rfl | (simp; done) | (simp; omega)) ((SlG.own hvp3 (fun p hp => (List.mem_cons_of_mem _ (List.mem_cons_of_mem _ (List.mem_cons_of_mem _ (List.mem_append_right _ (List.mem_append_left _ hp))))))) w hw) (by first | rfl | (simp; done) | (simp; omega)) ((SlG.own hvp4 (fun p hp => (List.mem_cons_of_mem _ (List.mem_cons_of_mem _ (List.mem_cons_of_mem _ (List.mem_append_right _ (List.mem_append_right _ hp))))))) w hw))) (decide_eq_true (rel_dirty hrel))) ?_
      refine o_nil ⟨rfl, ⟨qt (j := 15) (d := 54) rfl rfl rfl (y_move h1_1), trivial⟩, ?_⟩
      refine t_step rfl ?_
      refine o_y (v := .bool (true)) rfl rfl (y_pick (b := true) rfl rfl) ?_
      refine o_nil ⟨rfl, ⟨qt (j := 15) (d := 54) rfl rfl rfl (y_move h1_1), trivial⟩, ?_⟩
      refine t_step rfl ?_
      refine o_y (v := .bool (true)) rfl rfl (y_assign rfl) ?_
      refine o_nil ⟨rfl, ⟨qt (j := 15) (d := 54) rfl rfl rfl (y_move h1_1), trivial⟩, ?_⟩
      refine t_nil ?_
      refine hK10 _ _ ?_
      refine c_ret ?_
      refine fun w hw => ⟨[.bool (true)], ⟨rfl, trivial⟩, ?_⟩
      exact ⟨rfl, ((((List.sublist_append_left _ _).cons_cons _).cons_cons _).cons_cons _)⟩
      first | done | rfl

end Go.Proofs.Ytediblifbfhahaa.Line
