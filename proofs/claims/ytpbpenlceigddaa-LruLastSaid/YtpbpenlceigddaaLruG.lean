/- Proved: what the functions of a list come to; the conditions stand in the statements. -/
import Derived.Test.YtpbpenlceigddaaLruF
set_option linter.unusedVariables false
set_option linter.unusedSimpArgs false
set_option linter.unnecessarySimpa false
namespace Go.Proofs.Ytpbpenlceigddaa.Lru
open Go Go.RowKit Go.Proofs.Ytpbpenlceigddaa.Eng

set_option maxRecDepth 100000 in
set_option maxHeartbeats 4000000 in
theorem f9_TouchFull (gl gm en : Nat) (r : Int) (es : Array MapEntry) (cl : Nat) (mp : List (Int × Nat)) (gs : List Nat) (f : Nat → Nd) (k : Int) (w : World) (hM : MapC mp es) (hlk : Lk f en gs) (hl : lookM mp k = none) (hlen : (mp.length : Int) = r) (hlf : lf f en gs gs.length = none) (hat : At ([(gl, .cells (#[.int .i64 (r), .map (some gm), .pointer (some ⟨en, 0, none⟩)]) 49 (0, 0)), (gm, .map (es) (cl))] ++ ((Hn 52 (en :: gs) f))) w) :
    Calls Try.prog 9 [.pointer (some ⟨gl, 0, none⟩), .int .i64 (k)].toArray w fun e w' => e = .returned (.tuple #[.int .i64 (0), .bool (false), .int .i64 (10)]) ∧ Below w.heap.size w w' := by
  have hnd : (en :: gs).Nodup := by have h := hat.2; simp only [List.map_append, List.map_cons, List.map_nil, Hn.fst, List.cons_append, List.nil_append, List.nodup_cons] at h; first | exact List.nodup_cons.2 h.2.2 | exact List.nodup_cons.2 h.2
  refine (calls_of (P := Try.prog) (n := 88) (w0 := w) (S := ids ([(gl, .cells (#[.int .i64 (r), .map (some gm), .pointer (some ⟨en, 0, none⟩)]) 49 (0, 0)), (gm, .map (es) (cl))] ++ ((Hn 52 (en :: gs) f)))) (H := [(gl, .cells (#[.int .i64 (r), .map (some gm), .pointer (some ⟨en, 0, none⟩)]) 49 (0, 0)), (gm, .map (es) (cl))] ++ ((Hn 52 (en :: gs) f))) (T := fun v H => v = (.tuple #[.int .i64 (0), .bool (false), .int .i64 (10)]) ∧ ([(gl, .cells (#[.int .i64 (r), .map (some gm), .pointer (some ⟨en, 0, none⟩)]) 49 (0, 0)), (gm, .map (es) (cl))] ++ ((Hn 52 (en :: gs) f)) : Hp).Sublist H) Try.func9 rfl Try.ntmps9 (Nat.le_of_ble_eq_true rfl) [.tmp 4, .tmp 5, .tmp 6] rfl hat.st ?_).mono fun e w' ⟨v, H', he, hs, hT, hsub⟩ => ⟨by rw [he, hT], St.same hat hs hsub⟩
  refine c_seq fun K1 hK1 => ?_
  refine c_region ?_
  refine o_y (v := .int .i64 (0)) rfl rfl (y_assign rfl) ?_
  refine o_y (v := .bool (false)) rfl rfl (y_assign rfl) ?_
  refine o_y (v := .int .i64 (0)) rfl rfl (y_assign rfl) ?_
  refine o_nil ?_
  refine hK1 _ _ ?_
  refine c_seq fun K2 hK2 => ?_
  refine c_seq fun K3 hK3 => ?_
  refine c_region ?_
  refine o_y (v := .pointer (some ⟨gl, 0, none⟩)) rfl rfl (y_move rfl) ?_
  refine o_y (v := .bool (false)) rfl rfl (y_call (vs := [.pointer (some ⟨gl, 0, none⟩)]) b21 rfl (fun w hw => f21_some gl gm en r w (hw.sat (((List.nil_sublist _).cons _).cons_cons _)))) ?_
  refine o_nil ?_
  refine hK3 _ _ ?_
  refine c_cond (t := false) rfl (fun h => by cases h) (fun _ => ?_)
  refine c_skip ?_
  refine hK2 _ _ ?_
  refine c_seq fun K4 hK4 => ?_
  refine c_seq fun K5 hK5 => ?_
  refine c_region ?_
  refine o_y (v := .pointer (some ⟨gl, 0, none⟩)) rfl rfl (y_move rfl) ?_
  refine o_y (v := .pointer (some ⟨gl, 0, none⟩)) rfl rfl (y_nilCheck rfl) ?_
  refine o_y (v := .pointer (some ⟨gl, 1, none⟩)) rfl rfl (y_fieldAddr (k := 1) rfl Try.underlying49 rfl rfl ⟨_, s46⟩ (by first | rfl | omega)) ?_
  refine o_y (v := .map (some gm)) rfl rfl (y_load rfl Try.underlying46 rfl (Rd.one (k := 0) rfl rfl)) ?_
  refine o_y (v := .int .i64 (k)) rfl rfl (y_move rfl) ?_
  refine o_y (v := .tuple #[.pointer none, .bool (false)]) rfl rfl (y_look (o := none) rfl rfl Try.underlying46 Try.underlying3 zp47 (List.mem_of_getElem? (i := 1) rfl) hM hl rfl) ?_
  refine o_y (v := .tuple #[.pointer none, .bool (false)]) rfl rfl (y_move rfl) ?_
  refine o_y (v := .pointer none) rfl rfl (y_extract (vs := #[.pointer none, .bool (false)]) rfl rfl) ?_
  refine o_y (v := .bool (false)) rfl rfl (y_extract (vs := #[.pointer none, .bool (false)]) rfl rfl) ?_
  refine o_y (v := .pointer none) rfl rfl (y_assign rfl) ?_
  refine o_y (v := .bool (false)) rfl rfl (y_assign rfl) ?_
  refine o_nil ?_
  refine hK5 _ _ ?_
  refine c_seq fun K6 hK6 => ?_
  refine c_region ?_
  refine o_y (v := .bool (false)) rfl rfl (y_move rfl) ?_
  refine o_nil ?_
  refine hK6 _ _ ?_
  refine c_cond (t := false) rfl (fun h => by cases h) (fun _ => ?_)
  refine c_skip ?_
  refine hK4 _ _ ?_
  refine c_seq fun K7 hK7 => ?_
  refine c_seq fun K8 hK8 => ?_
  refine c_draw 10 (by kernel_rfl) (by kernel_rfl) ?_
  refine q_y (v := .pointer (some ⟨gl, 0, none⟩)) rfl (y_move rfl) ?_
  refine q_y (v := .pointer (some ⟨gl, 0, none⟩)) rfl (y_nilCheck rfl) ?_
  refine q_y (v := .pointer (some ⟨gl, 1, none⟩)) rfl (y_fieldAddr (k := 1) rfl Try.underlying49 rfl rfl ⟨_, s46⟩ (by first | rfl | omega)) ?_
  refine q_y (v := .map (some gm)) rfl (y_load rfl Try.underlying46 rfl (Rd.one (k := 0) rfl rfl)) ?_
  refine q_y (v := .int .i64 (((mp.length : Nat) : Int))) rfl (y_lenM rfl um46 (List.mem_of_getElem? (i := 1) rfl) hM) ?_
  refine q_y (v := .pointer (some ⟨gl, 0, none⟩)) rfl (y_move rfl) ?_
  refine q_y (v := .pointer (some ⟨gl, 0, none⟩)) rfl (y_nilCheck rfl) ?_
  refine q_y (v := .pointer (some ⟨gl, 0, none⟩)) rfl (y_fieldAddr (k := 0) rfl Try.underlying49 rfl rfl ⟨_, s3⟩ (by first | rfl | omega)) ?_
  refine q_y (v := .int .i64 (r)) rfl (y_load rfl Try.underlying3 rfl (Rd.one (k := 0) rfl rfl)) ?_
  refine q_y (v := .bool (true)) rfl (y_bool (y_eql rfl rfl rfl) (decide_eq_true hlen)) ?_
  refine q_nil ?_
  refine o_nil ?_
  refine hK8 _ _ ?_
  refine c_cond (t := true) rfl (fun _ => ?_) (fun h => by cases h)
  refine c_seq fun K9 hK9 => ?_
  refine c_region ?_
  refine o_y (v := .pointer (some ⟨gl, 0, none⟩)) rfl rfl (y_move rfl) ?_
  refine o_y (v := .pointer (some ⟨gl, 0, none⟩)) rfl rfl (y_nilCheck rfl) ?_
  refine o_y (v := .pointer (some ⟨gl, 2, none⟩)) rfl rfl (y_fieldAddr (k := 2) rfl Try.underlying49 rfl rfl ⟨_, s47⟩ (by first | rfl | omega)) ?_
  refine o_y (v := .pointer (some ⟨en, 0, none⟩)) rfl rfl (y_load rfl Try.underlying47 rfl (Rd.one (k := 0) rfl rfl)) ?_
  refine o_y (v := .pointer (some ⟨en, 0, none⟩)) rfl rfl (y_nilCheck rfl) ?_
  refine o_y (v := .pointer (some ⟨en, 2, none⟩)) rfl rfl (y_fieldAddr (k := 2) rfl Try.underlying52 rfl rfl ⟨_, s47⟩ (by first | rfl | omega)) ?_
  refine o_y (v := .pointer (some ⟨W en gs gs.length, 0, none⟩)) rfl rfl (y_load rfl Try.underlying47 rfl (Rd.nd (t := 52) (il := en :: gs) (f := f) (fun p hp => by first | exact List.mem_append_right _ hp | exact (List.mem_cons_of_mem _ (List.mem_cons_of_mem _ hp))) (by first | assumption | exact W_mem _ _ _ | exact List.mem_cons_self .. | exact List.mem_cons_of_mem _ (by first | assumption | exact W_mem _ _ _ | exact List.mem_cons_self ..)) (nd2 ((by have h := (hlk gs.length (Nat.le_refl _)).2; rw [W_n] at h; exact h))))) ?_
  refine o_y (v := .pointer (some ⟨W en gs gs.length, 0, none⟩)) rfl rfl (y_assign rfl) ?_
  refine o_nil ?_
  refine hK9 _ _ ?_
  refine c_seq fun K10 hK10 => ?_
  refine c_block ?_
  refine c_loop (fun d R H => ∃ (j : Nat), d = (j) ∧ (j ≤ gs.length) ∧ (lf f en gs gs.length = lf f en gs (j)) ∧ R 0 = .pointer (some ⟨gl, 0, none⟩) ∧ R 1 = .int .i64 (k) ∧ R 9 = .pointer (some ⟨W en gs (j), 0, none⟩) ∧ H = ([(gl, .cells (#[.int .i64 (r), .map (some gm), .pointer (some ⟨en, 0, none⟩)]) 49 (0, 0)), (gm, .map (es) (cl))] ++ ((Hn 52 (en :: gs) f)) : Hp)) ((gs.length)) ?_ ?_
  ·
    refine ⟨gs.length, rfl, by omega, rfl, rfl, rfl, rfl, rfl⟩
  ·
    rintro d1 R1 _ ⟨j, hd1, hv1_0, hv1_1, h1_0, h1_1, h1_9, rfl⟩
    refine c_seq fun K11 hK11 => ?_
    refine c_seq fun K12 hK12 => ?_
    refine c_region ?_
    refine o_y (v := .pointer (some ⟨W en gs (j), 0, none⟩)) rfl rfl (y_move h1_9) ?_
    refine o_y (v := .pointer (some ⟨gl, 0, none⟩)) rfl rfl (y_move h1_0) ?_
    refine o_y (v := .pointer (some ⟨gl, 0, none⟩)) rfl rfl (y_nilCheck rfl) ?_
    refine o_y (v := .pointer (some ⟨gl, 2, none⟩)) rfl rfl (y_fieldAddr (k := 2) rfl Try.underlying49 rfl rfl ⟨_, s47⟩ (by first | rfl | omega)) ?_
    refine o_y (v := .pointer (some ⟨en, 0, none⟩)) rfl rfl (y_load rfl Try.underlying47 rfl (Rd.one (k := 0) rfl rfl)) ?_
    refine o_y (v := .bool (decide (W en gs (j) ≠ en))) rfl rfl (y_neqP rfl rfl Try.underlying47 ⟨_, s52⟩ (Hn.at_ (t := 52) (il := en :: gs) (f := f) (fun p hp => by first | exact List.mem_append_right _ hp | exact (List.mem_cons_of_mem _ (List.mem_cons_of_mem _ hp))) (by first | assumption | exact W_mem _ _ _ | exact List.mem_cons_self .. | exact List.mem_cons_of_mem _ (by first | assumption | exact W_mem _ _ _ | exact List.mem_cons_self ..))) (Hn.at_ (t := 52) (il := en :: gs) (f := f) (fun p hp => by first | exact List.mem_append_right _ hp | exact (List.mem_cons_of_mem _ (List.mem_cons_of_mem _ hp))) (by first | assumption | exact W_mem _ _ _ | exact List.mem_cons_self .. | exact List.mem_cons_of_mem _ (by first | assumption | exact W_mem _ _ _ | exact List.mem_cons_self ..))) rfl) ?_
    refine o_y (v := .bool (decide (W en gs (j) ≠ en))) rfl rfl (y_move rfl) ?_
    cases hc1 : (decide (W en gs (j) ≠ en) : Bool)
    ·
      have hc1' := of_decide_eq_false hc1
      -- way LF
      refine o_guard (j := 6) (d := 51) (b := false) rfl rfl rfl (fun h => by cases h) rfl (fun _ => ?_)
      refine o_guard (j := 6) (d := 51) (b := false) rfl rfl rfl (fun h => by cases h) rfl (fun _ => ?_)
      refine o_guard (j := 6) (d := 51) (b := false) rfl rfl rfl (fun h => by cases h) rfl (fun _ => ?_)
      refine o_guard (j := 6) (d := 51) (b := false) rfl rfl rfl (fun h => by cases h) rfl (fun _ => ?_)
      refine o_y (v := .bool (false)) rfl rfl (y_pick (b := false) rfl rfl) ?_
      refine o_nil ?_
      refine hK12 _ _ ?_
      refine c_cond (t := false) rfl (fun h => by cases h) (fun _ => ?_)
      refine c_exit ?_
      refine hK10 _ _ ?_
      refine c_seq fun K13 hK13 => ?_
      refine c_seq fun K14 hK14 => ?_
      refine c_region ?_
      refine o_y (v := .pointer (some ⟨W en gs (j), 0, none⟩)) rfl rfl (y_move h1_9) ?_
      refine o_y (v := .pointer (some ⟨gl, 0, none⟩)) rfl rfl (y_move h1_0) ?_
      refine o_y (v := .pointer (some ⟨gl, 0, none⟩)) rfl rfl (y_nilCheck rfl) ?_
      refine o_y (v := .pointer (some ⟨gl, 2, none⟩)) rfl rfl (y_fieldAddr (k := 2) rfl Try.underlying49 rfl rfl ⟨_, s47⟩ (by first | rfl | omega)) ?_
      refine o_y (v := .pointer (some ⟨en, 0, none⟩)) rfl rfl (y_load rfl Try.underlying47 rfl (Rd.one (k := 0) rfl rfl)) ?_
      refine o_y (v := .bool (true)) rfl rfl (y_bool (y_eqlP rfl rfl Try.underlying47 ⟨_, s52⟩ (Hn.at_ (t := 52) (il := en :: gs) (f := f) (fun p hp => by first | exact List.mem_append_right _ hp | exact (List.mem_cons_of_mem _ (List.mem_cons_of_mem _ hp))) (by first | assumption | exact W_mem _ _ _ | exact List.mem_cons_self .. | exact List.mem_cons_of_mem _ (by first | assumption | exact W_mem _ _ _ | exact List.mem_cons_self ..))) (Hn.at_ (t := 52) (il := en :: gs) (f := f) (fun p hp => by first | exact List.mem_append_right _ hp | exact (List.mem_cons_of_mem _ (List.mem_cons_of_mem _ hp))) (by first | assumption | exact W_mem _ _ _ | exact List.mem_cons_self .. | exact List.mem_cons_of_mem _ (by first | assumption | exact W_mem _ _ _ | exact List.mem_cons_self ..))) rfl) (decide_eq_true (Classical.byContradiction hc1'))) ?_
      refine o_nil ?_
      refine hK14 _ _ ?_
      refine c_cond (t := true) rfl (fun _ => ?_) (fun h => by cases h)
      refine c_seq fun K15 hK15 => ?_
      refine c_region ?_
      refine o_y (v := .int .i64 (0)) rfl rfl (y_assign rfl) ?_
      refine o_y (v := .bool (false)) rfl rfl (y_assign rfl) ?_
      refine o_y (v := .int .i64 (10)) rfl rfl (y_assign rfl) ?_
      refine o_nil ?_
      refine hK15 _ _ ?_
      refine c_ret ?_
      refine fun w hw => ⟨[.int .i64 (0), .bool (false), .int .i64 (10)], ⟨rfl, rfl, rfl, trivial⟩, ?_⟩
      exact ⟨rfl, (((List.Sublist.refl _).cons_cons _).cons_cons _)⟩
      first | done | rfl
    ·
      have hc1' := of_decide_eq_true hc1
      -- way LT
      have hj : j ≠ 0 := fun h0 => hc1' (by rw [h0]; rfl)
      refine o_guard (j := 6) (d := 51) (b := true) rfl rfl rfl (fun _ => ?_) rfl (fun h => by cases h)
      refine o_y (v := .pointer (some ⟨W en gs (j), 0, none⟩)) rfl rfl (y_move h1_9) ?_
      refine o_guard (j := 6) (d := 51) (b := true) rfl rfl rfl (fun _ => ?_) rfl (fun h => by cases h)
      refine o_y (v := .pointer (some ⟨W en gs (j), 0, none⟩)) rfl rfl (y_nilCheck rfl) ?_
      refine o_guard (j := 6) (d := 51) (b := true) rfl rfl rfl (fun _ => ?_) rfl (fun h => by cases h)
      refine o_y (v := .pointer (some ⟨W en gs (j), 1, none⟩)) rfl rfl (y_fieldAddr (k := 1) rfl Try.underlying52 rfl rfl ⟨_, s4⟩ (by first | rfl | omega)) ?_
      refine o_guard (j := 6) (d := 51) (b := true) rfl rfl rfl (fun _ => ?_) rfl (fun h => by cases h)
      refine o_y (v := .bool ((f (W en gs (j))).p)) rfl rfl (y_load rfl Try.underlying4 rfl (Rd.nd (t := 52) (il := en :: gs) (f := f) (fun p hp => by first | exact List.mem_append_right _ hp | exact (List.mem_cons_of_mem _ (List.mem_cons_of_mem _ hp))) (by first | assumption | exact W_mem _ _ _ | exact List.mem_cons_self .. | exact List.mem_cons_of_mem _ (by first | assumption | exact W_mem _ _ _ | exact List.mem_cons_self ..)) (nd1 (rfl)))) ?_
      refine o_y (v := .bool ((f (W en gs (j))).p)) rfl rfl (y_pick (b := true) rfl rfl) ?_
      refine o_nil ?_
      refine hK12 _ _ ?_
      refine c_cond (t := (f (W en gs (j))).p) rfl (fun hc2 => ?_) (fun hc2 => ?_)
      ·
        -- way LTT
        refine c_skip ?_
        refine hK11 _ _ ?_
        refine c_block ?_
        refine c_region ?_
        refine o_y (v := .pointer (some ⟨W en gs (j), 0, none⟩)) rfl rfl (y_move h1_9) ?_
        refine o_y (v := .pointer (some ⟨W en gs (j), 0, none⟩)) rfl rfl (y_nilCheck rfl) ?_
        refine o_y (v := .pointer (some ⟨W en gs (j), 2, none⟩)) rfl rfl (y_fieldAddr (k := 2) rfl Try.underlying52 rfl rfl ⟨_, s47⟩ (by first | rfl | omega)) ?_
        refine o_y (v := .pointer (some ⟨W en gs (j - 1), 0, none⟩)) rfl rfl (y_load rfl Try.underlying47 rfl (Rd.nd (t := 52) (il := en :: gs) (f := f) (fun p hp => by first | exact List.mem_append_right _ hp | exact (List.mem_cons_of_mem _ (List.mem_cons_of_mem _ hp))) (by first | assumption | exact W_mem _ _ _ | exact List.mem_cons_self .. | exact List.mem_cons_of_mem _ (by first | assumption | exact W_mem _ _ _ | exact List.mem_cons_self ..)) (nd2 ((by have h := (hlk (j - 1) (by omega)).2; rw [show j - 1 + 1 = j from by omega] at h; exact h))))) ?_
        refine o_y (v := .pointer (some ⟨W en gs (j - 1), 0, none⟩)) rfl rfl (y_assign rfl) ?_
        refine o_nil ?_
        refine ⟨_, by omega, j - 1, rfl, by omega, hv1_1.trans (lf_pin hj hc2), h1_0, h1_1, rfl, rfl⟩
      ·
        -- way LTF
        exfalso; rw [hlf, lf_free hj hc2] at hv1_1; cases hv1_1

set_option maxRecDepth 100000 in
set_option maxHeartbeats 4000000 in
theorem f9_TouchOut (gl gm en : Nat) (r : Int) (es : Array MapEntry) (cl : Nat) (mp : List (Int × Nat)) (gs : List Nat) (f : Nat → Nd) (k : Int) (i h : Nat) (w : World) (hM : MapC mp es) (hlk : Lk f en gs) (hl : lookM mp k = none) (hlen : (mp.length : Int) = r) (hlf : lf f en gs gs.length = some i) (hh : h ∈ en :: gs) (hb2 : (unl f (W en gs (i + 1)) (W en gs i) (W en gs (i + 1 + 1)) en).b = PP h) (hkx : lookM mp (f (W en gs (i + 1))).k = some (W en gs (i + 1))) (hat : At ([(gl, .cells (#[.int .i64 (r), .map (some gm), .pointer (some ⟨en, 0, none⟩)]) 49 (0, 0)), (gm, .map (es) (cl))] ++ ((Hn 52 (en :: gs) f))) w) :
    Calls Try.prog 9 [.pointer (some ⟨gl, 0, none⟩), .int .i64 (k)].toArray w fun e w' => ∃ v H', e = .returned v ∧ St w (ids ([(gl, .cells (#[.int .i64 (r), .map (some gm), .pointer (some ⟨en, 0, none⟩)]) 49 (0, 0)), (gm, .map (es) (cl))] ++ ((Hn 52 (en :: gs) f)))) H' w' ∧ (fun v H => v = .tuple #[.int .i64 ((f (W en gs (i + 1))).k), .bool (true), .int .i64 (0)] ∧ ∃ g es' cl' mp', H = ([(gl, .cells #[.int .i64 (r), .map (some gm), .pointer (some ⟨en, 0, none⟩)] 49 (0, 0)), (gm, .map es' cl')] ++ Hn 52 (g :: en :: gs) (frs (putN (unl f (W en gs (i + 1)) (W en gs i) (W en gs (i + 1 + 1))) g ⟨k, false, .pointer none, .pointer none⟩) g en h) : Hp) ∧ MapC (mp' ++ [(k, g)]) es' ∧ mp.Perm (((f (W en gs (i + 1))).k, W en gs (i + 1)) :: mp') ∧ g ∉ en :: gs) v H' := by
  have hnd : (en :: gs).Nodup := by have h := hat.2; simp only [List.map_append, List.map_cons, List.map_nil, Hn.fst, List.cons_append, List.nil_append, List.nodup_cons] at h; first | exact List.nodup_cons.2 h.2.2 | exact List.nodup_cons.2 h.2
  refine (calls_of (P := Try.prog) (n := 88) (w0 := w) (S := ids ([(gl, .cells (#[.int .i64 (r), .map (some gm), .pointer (some ⟨en, 0, none⟩)]) 49 (0, 0)), (gm, .map (es) (cl))] ++ ((Hn 52 (en :: gs) f)))) (H := [(gl, .cells (#[.int .i64 (r), .map (some gm), .pointer (some ⟨en, 0, none⟩)]) 49 (0, 0)), (gm, .map (es) (cl))] ++ ((Hn 52 (en :: gs) f))) (T := fun v H => ∃ H1, (fun v H => v = .tuple #[.int .i64 ((f (W en gs (i + 1))).k), .bool (true), .int .i64 (0)] ∧ ∃ g es' cl' mp', H = ([(gl, .cells #[.int .i64 (r), .map (some gm), .pointer (some ⟨en, 0, none⟩)] 49 (0, 0)), (gm, .map es' cl')] ++ Hn 52 (g :: en :: gs) (frs (putN (unl f (W en gs (i + 1)) (W en gs i) (W en gs (i + 1 + 1))) g ⟨k, false, .pointer none, .pointer none⟩) g en h) : Hp) ∧ MapC (mp' ++ [(k, g)]) es' ∧ mp.Perm (((f (W en gs (i + 1))).k, W en gs (i + 1)) :: mp') ∧ g ∉ en :: gs) v H1 ∧ (H1 : Hp).Sublist H) Try.func9 rfl Try.ntmps9 (Nat.le_of_ble_eq_true rfl) [.tmp 4, .tmp 5, .tmp 6] rfl hat.st ?_).mono fun e w' ⟨v, H', he, hs, H1, hT, hsub⟩ => ⟨v, H1, he, hs.drop hsub, hT⟩
  refine c_seq fun K1 hK1 => ?_
  refine c_region ?_
  refine o_y (v := .int .i64 (0)) rfl rfl (y_assign rfl) ?_
  refine o_y (v := .bool (false)) rfl rfl (y_assign rfl) ?_
  refine o_y (v := .int .i64 (0)) rfl rfl (y_assign rfl) ?_
  refine o_nil ?_
  refine hK1 _ _ ?_
  refine c_seq fun K2 hK2 => ?_
  refine c_seq fun K3 hK3 => ?_
  refine c_region ?_
  refine o_y (v := .pointer (some ⟨gl, 0, none⟩)) rfl rfl (y_move rfl) ?_
  refine o_y (v := .bool (false)) rfl rfl (y_call (vs := [.pointer (some ⟨gl, 0, none⟩)]) b21 rfl (fun w hw => f21_some gl gm en r w (hw.sat (((List.nil_sublist _).cons _).cons_cons _)))) ?_
  refine o_nil ?_
  refine hK3 _ _ ?_
  refine c_cond (t := false) rfl (fun h => by cases h) (fun _ => ?_)
  refine c_skip ?_
  refine hK2 _ _ ?_
  refine c_seq fun K4 hK4 => ?_
  refine c_seq fun K5 hK5 => ?_
  refine c_region ?_
  refine o_y (v := .pointer (some ⟨gl, 0, none⟩)) rfl rfl (y_move rfl) ?_
  refine o_y (v := .pointer (some ⟨gl, 0, none⟩)) rfl rfl (y_nilCheck rfl) ?_
  refine o_y (v := .pointer (some ⟨gl, 1, none⟩)) rfl rfl (y_fieldAddr (k := 1) rfl Try.underlying49 rfl rfl ⟨_, s46⟩ (by first | rfl | omega)) ?_
  refine o_y (v := .map (some gm)) rfl rfl (y_load rfl Try.underlying46 rfl (Rd.one (k := 0) rfl rfl)) ?_
  refine o_y (v := .int .i64 (k)) rfl rfl (y_move rfl) ?_
  refine o_y (v := .tuple #[.pointer none, .bool (false)]) rfl rfl (y_look (o := none) rfl rfl Try.underlying46 Try.underlying3 zp47 (List.mem_of_getElem? (i := 1) rfl) hM hl rfl) ?_
  refine o_y (v := .tuple #[.pointer none, .bool (false)]) rfl rfl (y_move rfl) ?_
  refine o_y (v := .pointer none) rfl rfl (y_extract (vs := #[.pointer none, .bool (false)]) rfl rfl) ?_
  refine o_y (v := .bool (false)) rfl rfl (y_extract (vs := #[.pointer none, .bool (false)]) rfl rfl) ?_
  refine o_y (v := .pointer none) rfl rfl (y_assign rfl) ?_
  refine o_y (v := .bool (false)) rfl rfl (y_assign rfl) ?_
  refine o_nil ?_
  refine hK5 _ _ ?_
  refine c_seq fun K6 hK6 => ?_
  refine c_region ?_
  refine o_y (v := .bool (false)) rfl rfl (y_move rfl) ?_
  refine o_nil ?_
  refine hK6 _ _ ?_
  refine c_cond (t := false) rfl (fun h => by cases h) (fun _ => ?_)
  refine c_skip ?_
  refine hK4 _ _ ?_
  refine c_seq fun K7 hK7 => ?_
  refine c_seq fun K8 hK8 => ?_
  refine c_draw 10 (by kernel_rfl) (by kernel_rfl) ?_
  refine q_y (v := .pointer (some ⟨gl, 0, none⟩)) rfl (y_move rfl) ?_
  refine q_y (v := .pointer (some ⟨gl, 0, none⟩)) rfl (y_nilCheck rfl) ?_
  refine q_y (v := .pointer (some ⟨gl, 1, none⟩)) rfl (y_fieldAddr (k := 1) rfl Try.underlying49 rfl rfl ⟨_, s46⟩ (by first | rfl | omega)) ?_
  refine q_y (v := .map (some gm)) rfl (y_load rfl Try.underlying46 rfl (Rd.one (k := 0) rfl rfl)) ?_
  refine q_y (v := .int .i64 (((mp.length : Nat) : Int))) rfl (y_lenM rfl um46 (List.mem_of_getElem? (i := 1) rfl) hM) ?_
  refine q_y (v := .pointer (some ⟨gl, 0, none⟩)) rfl (y_move rfl) ?_
  refine q_y (v := .pointer (some ⟨gl, 0, none⟩)) rfl (y_nilCheck rfl) ?_
  refine q_y (v := .pointer (some ⟨gl, 0, none⟩)) rfl (y_fieldAddr (k := 0) rfl Try.underlying49 rfl rfl ⟨_, s3⟩ (by first | rfl | omega)) ?_
  refine q_y (v := .int .i64 (r)) rfl (y_load rfl Try.underlying3 rfl (Rd.one (k := 0) rfl rfl)) ?_
  refine q_y (v := .bool (true)) rfl (y_bool (y_eql rfl rfl rfl) (decide_eq_true hlen)) ?_
  refine q_nil ?_
  refine o_nil ?_
  refine hK8 _ _ ?_
  refine c_cond (t := true) rfl (fun _ => ?_) (fun h => by cases h)
  refine c_seq fun K9 hK9 => ?_
  refine c_region ?_
  refine o_y (v := .pointer (some ⟨gl, 0, none⟩)) rfl rfl (y_move rfl) ?_
  refine o_y (v := .pointer (some ⟨gl, 0, none⟩)) rfl rfl (y_nilCheck rfl) ?_
  refine o_y (v := .pointer (some ⟨gl, 2, none⟩)) rfl rfl (y_fieldAddr (k := 2) rfl Try.underlying49 rfl rfl ⟨_, s47⟩ (by first | rfl | omega)) ?_
  refine o_y (v := .pointer (some ⟨en, 0, none⟩)) rfl rfl (y_load rfl Try.underlying47 rfl (Rd.one (k := 0) rfl rfl)) ?_
  refine o_y (v := .pointer (some ⟨en, 0, none⟩)) rfl rfl (y_nilCheck rfl) ?_
  refine o_y (v := .pointer (some ⟨en, 2, none⟩)) rfl rfl (y_fieldAddr (k := 2) rfl Try.underlying52 rfl rfl ⟨_, s47⟩ (by first | rfl | omega)) ?_
  refine o_y (v := .pointer (some ⟨W en gs gs.length, 0, none⟩)) rfl rfl (y_load rfl Try.underlying47 rfl (Rd.nd (t := 52) (il := en :: gs) (f := f) (fun p hp => by first | exact List.mem_append_right _ hp | exact (List.mem_cons_of_mem _ (List.mem_cons_of_mem _ hp))) (by first | assumption | exact W_mem _ _ _ | exact List.mem_cons_self .. | exact List.mem_cons_of_mem _ (by first | assumption | exact W_mem _ _ _ | exact List.mem_cons_self ..)) (nd2 ((by have h := (hlk gs.length (Nat.le_refl _)).2; rw [W_n] at h; exact h))))) ?_
  refine o_y (v := .pointer (some ⟨W en gs gs.length, 0, none⟩)) rfl rfl (y_assign rfl) ?_
  refine o_nil ?_
  refine hK9 _ _ ?_
  refine c_seq fun K10 hK10 => ?_
  refine c_block ?_
  refine c_loop (fun d R H => ∃ (j : Nat), d = (j) ∧ (j ≤ gs.length) ∧ (lf f en gs gs.length = lf f en gs (j)) ∧ R 0 = .pointer (some ⟨gl, 0, none⟩) ∧ R 1 = .int .i64 (k) ∧ R 9 = .pointer (some ⟨W en gs (j), 0, none⟩) ∧ H = ([(gl, .cells (#[.int .i64 (r), .map (some gm), .pointer (some ⟨en, 0, none⟩)]) 49 (0, 0)), (gm, .map (es) (cl))] ++ ((Hn 52 (en :: gs) f)) : Hp)) ((gs.length)) ?_ ?_
  ·
    refine ⟨gs.length, rfl, by omega, rfl, rfl, rfl, rfl, rfl⟩
  ·
    rintro d1 R1 _ ⟨j, hd1, hv1_0, hv1_1, h1_0, h1_1, h1_9, rfl⟩
    refine c_seq fun K11 hK11 => ?_
    refine c_seq fun K12 hK12 => ?_
    refine c_region ?_
    refine o_y (v := .pointer (some ⟨W en gs (j), 0, none⟩)) rfl rfl (y_move h1_9) ?_
    refine o_y (v := .pointer (some ⟨gl, 0, none⟩)) rfl rfl (y_move h1_0) ?_
    refine o_y (v := .pointer (some ⟨gl, 0, none⟩)) rfl rfl (y_nilCheck rfl) ?_
    refine o_y (v := .pointer (some ⟨gl, 2, none⟩)) rfl rfl (y_fieldAddr (k := 2) rfl Try.underlying49 rfl rfl ⟨_, s47⟩ (by first | rfl | omega)) ?_
    refine o_y (v := .pointer (some ⟨en, 0, none⟩)) rfl rfl (y_load rfl Try.underlying47 rfl (Rd.one (k := 0) rfl rfl)) ?_
    refine o_y (v := .bool (decide (W en gs (j) ≠ en))) rfl rfl (y_neqP rfl rfl Try.underlying47 ⟨_, s52⟩ (Hn.at_ (t := 52) (il := en :: gs) (f := f) (fun p hp => by first | exact List.mem_append_right _ hp | exact (List.mem_cons_of_mem _ (List.mem_cons_of_mem _ hp))) (by first | assumption | exact W_mem _ _ _ | exact List.mem_cons_self .. | exact List.mem_cons_of_mem _ (by first | assumption | exact W_mem _ _ _ | exact List.mem_cons_self ..))) (Hn.at_ (t := 52) (il := en :: gs) (f := f) (fun p hp => by first | exact List.mem_append_right _ hp | exact (List.mem_cons_of_mem _ (List.mem_cons_of_mem _ hp))) (by first | assumption | exact W_mem _ _ _ | exact List.mem_cons_self .. | exact List.mem_cons_of_mem _ (by first | assumption | exact W_mem _ _ _ | exact List.mem_cons_self ..))) rfl) ?_
    refine o_y (v := .bool (decide (W en gs (j) ≠ en))) rfl rfl (y_move rfl) ?_
    cases hc1 : (decide (W en gs (j) ≠ en) : Bool)
    ·
      have hc1' := of_decide_eq_false hc1
      -- way LF
      exfalso; have h0 := W_zero hnd hv1_0 (Classical.byContradiction hc1'); subst h0; rw [hlf] at hv1_1; cases hv1_1
    ·
      have hc1' := of_decide_eq_true hc1
      -- way LT
      have hj : j ≠ 0 := fun h0 => hc1' (by rw [h0]; rfl)
      refine o_guard (j := 6) (d := 51) (b := true) rfl rfl rfl (fun _ => ?_) rfl (fun h => by cases h)
      refine o_y (v := .pointer (some ⟨W en gs (j), 0, none⟩)) rfl rfl (y_move h1_9) ?_
      refine o_guard (j := 6) (d := 51) (b := true) rfl rfl rfl (fun _ => ?_) rfl (fun h => by cases h)
      refine o_y (v := .pointer (some ⟨W en gs (j), 0, none⟩)) rfl rfl (y_nilCheck rfl) ?_
      refine o_guard (j := 6) (d := 51) (b := true) rfl rfl rfl (fun _ => ?_) rfl (fun h => by cases h)
      refine o_y (v := .pointer (some ⟨W en gs (j), 1, none⟩)) rfl rfl (y_fieldAddr (k := 1) rfl Try.underlying52 rfl rfl ⟨_, s4⟩ (by first | rfl | omega)) ?_
      refine o_guard (j := 6) (d := 51) (b := true) rfl rfl rfl (fun _ => ?_) rfl (fun h => by cases h)
      refine o_y (v := .bool ((f (W en gs (j))).p)) rfl rfl (y_load rfl Try.underlying4 rfl (Rd.nd (t := 52) (il := en :: gs) (f := f) (fun p hp => by first | exact List.mem_append_right _ hp | exact (List.mem_cons_of_mem _ (List.mem_cons_of_mem _ hp))) (by first | assumption | exact W_mem _ _ _ | exact List.mem_cons_self .. | exact List.mem_cons_of_mem _ (by first | assumption | exact W_mem _ _ _ | exact List.mem_cons_self ..)) (nd1 (rfl)))) ?_
      refine o_y (v := .bool ((f (W en gs (j))).p)) rfl rfl (y_pick (b := true) rfl rfl) ?_
      refine o_nil ?_
      refine hK12 _ _ ?_
      refine c_cond (t := (f (W en gs (j))).p) rfl (fun hc2 => ?_) (fun hc2 => ?_)
      ·
        -- way LTT
        refine c_skip ?_
        refine hK11 _ _ ?_
        refine c_block ?_
        refine c_region ?_
        refine o_y (v := .pointer (some ⟨W en gs (j), 0, none⟩)) rfl rfl (y_move h1_9) ?_
        refine o_y (v := .pointer (some ⟨W en gs (j), 0, none⟩)) rfl rfl (y_nilCheck rfl) ?_
        refine o_y (v := .pointer (some ⟨W en gs (j), 2, none⟩)) rfl rfl (y_fieldAddr (k := 2) rfl Try.underlying52 rfl rfl ⟨_, s47⟩ (by first | rfl | omega)) ?_
        refine o_y (v := .pointer (some ⟨W en gs (j - 1), 0, none⟩)) rfl rfl (y_load rfl Try.underlying47 rfl (Rd.nd (t := 52) (il := en :: gs) (f := f) (fun p hp => by first | exact List.mem_append_right _ hp | exact (List.mem_cons_of_mem _ (List.mem_cons_of_mem _ hp))) (by first | assumption | exact W_mem _ _ _ | exact List.mem_cons_self .. | exact List.mem_cons_of_mem _ (by first | assumption | exact W_mem _ _ _ | exact List.mem_cons_self ..)) (nd2 ((by have h := (hlk (j - 1) (by omega)).2; rw [show j - 1 + 1 = j from by omega] at h; exact h))))) ?_
        refine o_y (v := .pointer (some ⟨W en gs (j - 1), 0, none⟩)) rfl rfl (y_assign rfl) ?_
        refine o_nil ?_
        refine ⟨_, by omega, j - 1, rfl, by omega, hv1_1.trans (lf_pin hj hc2), h1_0, h1_1, rfl, rfl⟩
      ·
        -- way LTF
        have hji : j = i + 1 := by rw [hlf, lf_free hj hc2] at hv1_1; have h5 := Option.some.inj hv1_1; omega
        subst hji
        refine c_exit ?_
        refine hK10 _ _ ?_
        refine c_seq fun K13 hK13 => ?_
        refine c_seq fun K14 hK14 => ?_
        refine c_region ?_
        refine o_y (v := .pointer (some ⟨W en gs (i + 1), 0, none⟩)) rfl rfl (y_move h1_9) ?_
        refine o_y (v := .pointer (some ⟨gl, 0, none⟩)) rfl rfl (y_move h1_0) ?_
        refine o_y (v := .pointer (some ⟨gl, 0, none⟩)) rfl rfl (y_nilCheck rfl) ?_
        refine o_y (v := .pointer (some ⟨gl, 2, none⟩)) rfl rfl (y_fieldAddr (k := 2) rfl Try.underlying49 rfl rfl ⟨_, s47⟩ (by first | rfl | omega)) ?_
        refine o_y (v := .pointer (some ⟨en, 0, none⟩)) rfl rfl (y_load rfl Try.underlying47 rfl (Rd.one (k := 0) rfl rfl)) ?_
        refine o_y (v := .bool (false)) rfl rfl (y_bool (y_eqlP rfl rfl Try.underlying47 ⟨_, s52⟩ (Hn.at_ (t := 52) (il := en :: gs) (f := f) (fun p hp => by first | exact List.mem_append_right _ hp | exact (List.mem_cons_of_mem _ (List.mem_cons_of_mem _ hp))) (by first | assumption | exact W_mem _ _ _ | exact List.mem_cons_self .. | exact List.mem_cons_of_mem _ (by first | assumption | exact W_mem _ _ _ | exact List.mem_cons_self ..))) (Hn.at_ (t := 52) (il := en :: gs) (f := f) (fun p hp => by first | exact List.mem_append_right _ hp | exact (List.mem_cons_of_mem _ (List.mem_cons_of_mem _ hp))) (by first | assumption | exact W_mem _ _ _ | exact List.mem_cons_self .. | exact List.mem_cons_of_mem _ (by first | assumption | exact W_mem _ _ _ | exact List.mem_cons_self ..))) rfl) (decide_eq_false hc1')) ?_
        refine o_nil ?_
        refine hK14 _ _ ?_
        refine c_cond (t := false) rfl (fun h => by cases h) (fun _ => ?_)
        refine c_skip ?_
        refine hK13 _ _ ?_
        refine c_seq fun K15 hK15 => ?_
        refine c_region ?_
        refine o_y (v := .pointer (some ⟨W en gs (i + 1), 0, none⟩)) rfl rfl (y_move h1_9) ?_
        refine o_y (v := .pointer (some ⟨W en gs (i + 1), 0, none⟩)) rfl rfl (y_nilCheck rfl) ?_
        refine o_y (v := .pointer (some ⟨W en gs (i + 1), 0, none⟩)) rfl rfl (y_fieldAddr (k := 0) rfl Try.underlying52 rfl rfl ⟨_, s3⟩ (by first | rfl | omega)) ?_
        refine o_y (v := .int .i64 ((f (W en gs (i + 1))).k)) rfl rfl (y_load rfl Try.underlying3 rfl (Rd.nd (t := 52) (il := en :: gs) (f := f) (fun p hp => by first | exact List.mem_append_right _ hp | exact (List.mem_cons_of_mem _ (List.mem_cons_of_mem _ hp))) (by first | assumption | exact W_mem _ _ _ | exact List.mem_cons_self .. | exact List.mem_cons_of_mem _ (by first | assumption | exact W_mem _ _ _ | exact List.mem_cons_self ..)) (nd0 (rfl)))) ?_
        refine o_y (v := .int .i64 ((f (W en gs (i + 1))).k)) rfl rfl (y_assign rfl) ?_
        refine o_y (v := .bool (true)) rfl rfl (y_assign rfl) ?_
        refine o_nil ?_
        refine hK15 _ _ ?_
        refine c_region ?_
        refine o_y (v := .pointer (some ⟨gl, 0, none⟩)) rfl rfl (y_move h1_0) ?_
        refine o_y (v := .pointer (some ⟨W en gs (i + 1), 0, none⟩)) rfl rfl (y_move h1_9) ?_
        refine o_callS ([(gl, .cells (#[.int .i64 (r), .map (some gm), .pointer (some ⟨en, 0, none⟩)]) 49 (0, 0)), (gm, .map (es) (cl))] ++ ((Hn 52 (en :: gs) f))) ([]) (by first | exact List.Perm.refl _ | (simp only [List.append_nil]; first | done | exact List.Perm.refl _)) (vs := [.pointer (some ⟨gl, 0, none⟩), .pointer (some ⟨W en gs (i + 1), 0, none⟩)]) b24 rfl rfl (fun w hat => f24_drop gl gm en r es cl mp (en :: gs) f (W en gs (i + 1)) (W en gs (i)) (W en gs (i + 1 + 1)) w hM (by first | assumption | exact W_mem _ _ _ | exact List.mem_cons_self .. | exact List.mem_cons_of_mem _ (by first | assumption | exact W_mem _ _ _ | exact List.mem_cons_self ..)) (by first | assumption | exact W_mem _ _ _ | exact List.mem_cons_self .. | exact List.mem_cons_of_mem _ (by first | assumption | exact W_mem _ _ _ | exact List.mem_cons_self ..)) (by first | assumption | exact W_mem _ _ _ | exact List.mem_cons_self .. | exact List.mem_cons_of_mem _ (by first | assumption | exact W_mem _ _ _ | exact List.mem_cons_self ..)) ((hlk (i) (by omega)).2) ((hlk (i + 1) (by omega)).1) hkx hat) ?_
        rintro _ _ ⟨rfl, esp1, clp1, mpp1, rfl, hMp1, hpp1⟩
        refine o_perm (H' := [(gl, .cells (#[.int .i64 (r), .map (some gm), .pointer (some ⟨en, 0, none⟩)]) 49 (0, 0)), (gm, .map (esp1) (clp1))] ++ ((Hn 52 (en :: gs) (unl f (W en gs (i + 1)) (W en gs (i)) (W en gs (i + 1 + 1)))))) (by first | exact List.Perm.refl _ | (simp only [List.append_nil]; first | done | exact List.Perm.refl _)) ?_
        refine o_nil ?_
        refine hK7 _ _ ?_
        refine c_seq fun K16 hK16 => ?_
        refine c_region ?_
        refine o_y (v := .int .i64 (k)) rfl rfl (y_move h1_1) ?_
        refine o_y (v := .agg (#[.int .i64 (k), .bool (false), .pointer none, .pointer none])) rfl rfl (y_build rfl (by kernel_rfl)) ?_
        refine o_box (v := .agg (#[.int .i64 (k), .bool (false), .pointer none, .pointer none])) rfl rfl fun g2 => ?_
        refine o_y (v := .pointer (some ⟨g2, 0, none⟩)) rfl rfl (y_assign rfl) ?_
        refine o_nil ?_
        refine hK16 _ _ ?_
        refine c_seq fun K17 hK17 => ?_
        refine c_region ?_
        refine o_y (v := .pointer (some ⟨gl, 0, none⟩)) rfl rfl (y_move h1_0) ?_
        refine o_y (v := .pointer (some ⟨gl, 0, none⟩)) rfl rfl (y_nilCheck rfl) ?_
        refine o_y (v := .pointer (some ⟨gl, 1, none⟩)) rfl rfl (y_fieldAddr (k := 1) rfl Try.underlying49 rfl rfl ⟨_, s46⟩ (by first | rfl | omega)) ?_
        refine o_y (v := .map (some gm)) rfl rfl (y_load rfl Try.underlying46 rfl (Rd.one (k := 1) rfl rfl)) ?_
        refine o_y (v := .int .i64 (k)) rfl rfl (y_move h1_1) ?_
        refine o_y (v := .pointer (some ⟨g2, 0, none⟩)) rfl rfl (y_move rfl) ?_
        refine o_putM (g := g2) 2 rfl rfl rfl Try.underlying46 Try.underlying3 rfl hMp1 (lookM_cut hl hpp1) fun esm3 clm3 hMm3 => ?_
        refine o_nil ?_
        refine hK17 _ _ ?_
        refine c_seq fun K18 hK18 => ?_
        refine c_region ?_
        refine o_y (v := .pointer (some ⟨gl, 0, none⟩)) rfl rfl (y_move h1_0) ?_
        refine o_y (v := .pointer (some ⟨g2, 0, none⟩)) rfl rfl (y_move rfl) ?_
        refine o_nodup fun hg4 => ?_
        replace hg4 : g2 ∉ en :: gs := by intro hm; simp [Hn.fst] at hg4; simp_all
        refine o_perm (H' := [(gl, .cells (#[.int .i64 (r), .map (some gm), .pointer (some ⟨en, 0, none⟩)]) 49 (0, 0)), (gm, .map (esm3) (clm3))] ++ ((Hn 52 (g2 :: (en :: gs)) (putN (unl f (W en gs (i + 1)) (W en gs (i)) (W en gs (i + 1 + 1))) g2 ⟨k, false, .pointer none, .pointer none⟩)))) (by rw [← Hn.put hg4]; exact List.perm_middle (l₁ := ([(gl, .cells (#[.int .i64 (r), .map (some gm), .pointer (some ⟨en, 0, none⟩)]) 49 (0, 0)), (gm, .map (esm3) (clm3))] : Hp)) (l₂ := (Hn 52 (en :: gs) (unl f (W en gs (i + 1)) (W en gs (i)) (W en gs (i + 1 + 1)))))) ?_
        refine o_callS ([(gl, .cells (#[.int .i64 (r), .map (some gm), .pointer (some ⟨en, 0, none⟩)]) 49 (0, 0))] ++ ((Hn 52 (g2 :: (en :: gs)) (putN (unl f (W en gs (i + 1)) (W en gs (i)) (W en gs (i + 1 + 1))) g2 ⟨k, false, .pointer none, .pointer none⟩)))) ([(gm, .map (esm3) (clm3))]) (by have hp0 : List.Perm ([(gl, .cells (#[.int .i64 (r), .map (some gm), .pointer (some ⟨en, 0, none⟩)]) 49 (0, 0)), (gm, .map (esm3) (clm3))] ++ ((Hn 52 (g2 :: (en :: gs)) (putN (unl f (W en gs (i + 1)) (W en gs (i)) (W en gs (i + 1 + 1))) g2 ⟨k, false, .pointer none, .pointer none⟩))) : Hp) ((gl, (.cells (#[.int .i64 (r), .map (some gm), .pointer (some ⟨en, 0, none⟩)]) 49 (0, 0) : Obj)) :: ([(gm, .map (esm3) (clm3))] ++ ((Hn 52 (g2 :: (en :: gs)) (putN (unl f (W en gs (i + 1)) (W en gs (i)) (W en gs (i + 1 + 1))) g2 ⟨k, false, .pointer none, .pointer none⟩))) : Hp)) := (List.Perm.refl _); have hp1 : List.Perm ([(gm, .map (esm3) (clm3))] ++ ((Hn 52 (g2 :: (en :: gs)) (putN (unl f (W en gs (i + 1)) (W en gs (i)) (W en gs (i + 1 + 1))) g2 ⟨k, false, .pointer none, .pointer none⟩))) : Hp) ((Hn 52 (g2 :: (en :: gs)) (putN (unl f (W en gs (i + 1)) (W en gs (i)) (W en gs (i + 1 + 1))) g2 ⟨k, false, .pointer none, .pointer none⟩)) ++ ([(gm, .map (esm3) (clm3))] : Hp)) := (by have h := List.perm_append_comm_assoc ([(gm, .map (esm3) (clm3))] : Hp) (Hn 52 (g2 :: (en :: gs)) (putN (unl f (W en gs (i + 1)) (W en gs (i)) (W en gs (i + 1 + 1))) g2 ⟨k, false, .pointer none, .pointer none⟩)) ([] : Hp); first | exact h | simpa [List.append_assoc] using h); have h := (hp0.trans (List.Perm.cons _ hp1)); first | exact h | simpa [List.append_assoc] using h) (vs := [.pointer (some ⟨gl, 0, none⟩), .pointer (some ⟨g2, 0, none⟩)]) b23 rfl rfl (fun w hat => f23_first gl gm en r (g2 :: (en :: gs)) (putN (unl f (W en gs (i + 1)) (W en gs (i)) (W en gs (i + 1 + 1))) g2 ⟨k, false, .pointer none, .pointer none⟩) (g2) (h) w (by first | assumption | exact W_mem _ _ _ | exact List.mem_cons_self .. | exact List.mem_cons_of_mem _ (by first | assumption | exact W_mem _ _ _ | exact List.mem_cons_self ..)) (by first | assumption | exact W_mem _ _ _ | exact List.mem_cons_self .. | exact List.mem_cons_of_mem _ (by first | assumption | exact W_mem _ _ _ | exact List.mem_cons_self ..)) (by first | assumption | exact W_mem _ _ _ | exact List.mem_cons_self .. | exact List.mem_cons_of_mem _ (by first | assumption | exact W_mem _ _ _ | exact List.mem_cons_self ..)) ((by rw [putN_ne _ _ _ (ne_mem (List.mem_cons_self ..) hg4)]; exact hb2)) hat) ?_
        rintro _ _ ⟨rfl, rfl⟩
        refine o_perm (H' := [(gl, .cells (#[.int .i64 (r), .map (some gm), .pointer (some ⟨en, 0, none⟩)]) 49 (0, 0)), (gm, .map (esm3) (clm3))] ++ ((Hn 52 (g2 :: (en :: gs)) (frs (putN (unl f (W en gs (i + 1)) (W en gs (i)) (W en gs (i + 1 + 1))) g2 ⟨k, false, .pointer none, .pointer none⟩) (g2) en (h))))) (by have h := (List.perm_append_comm_assoc (((Hn 52 (g2 :: (en :: gs)) (frs (putN (unl f (W en gs (i + 1)) (W en gs (i)) (W en gs (i + 1 + 1))) g2 ⟨k, false, .pointer none, .pointer none⟩) (g2) en (h))))) ([(gm, .map (esm3) (clm3))] : Hp) ([] : Hp)).symm; first | exact h | exact List.Perm.append_left _ h | simpa [List.append_assoc] using h) ?_
        refine o_nil ?_
        refine hK18 _ _ ?_
        refine c_seq fun K19 hK19 => ?_
        refine c_region ?_
        refine o_y (v := .int .i64 ((f (W en gs (i + 1))).k)) rfl rfl (y_move rfl) ?_
        refine o_y (v := .bool (true)) rfl rfl (y_move rfl) ?_
        refine o_y (v := .int .i64 ((f (W en gs (i + 1))).k)) rfl rfl (y_assign rfl) ?_
        refine o_y (v := .bool (true)) rfl rfl (y_assign rfl) ?_
        refine o_y (v := .int .i64 (0)) rfl rfl (y_assign rfl) ?_
        refine o_nil ?_
        refine hK19 _ _ ?_
        refine c_ret ?_
        refine fun w hw => ⟨[.int .i64 ((f (W en gs (i + 1))).k), .bool (true), .int .i64 (0)], ⟨rfl, rfl, rfl, trivial⟩, ?_⟩
        exact ⟨_, ⟨rfl, _, _, _, _, rfl, hMm3, ‹_›, hg4⟩, (((List.Sublist.refl _).cons_cons _).cons_cons _)⟩
        first | done | rfl

set_option maxRecDepth 100000 in
set_option maxHeartbeats 4000000 in
theorem f11_Keys (gl gm en : Nat) (r : Int) (gs : List Nat) (f : Nat → Nd) (w : World) (hlk : Lk f en gs) (h64 : gs.length ≤ 1000) (hat : At ([(gl, .cells (#[.int .i64 (r), .map (some gm), .pointer (some ⟨en, 0, none⟩)]) 49 (0, 0))] ++ ((Hn 52 (en :: gs) f))) w) :
    Calls Try.prog 11 [.pointer (some ⟨gl, 0, none⟩)].toArray w fun e w' => ∃ v H', e = .returned v ∧ St w (fun _ => False) H' w' ∧ (fun v H => ∃ a g2 cap, v = .slice a (kys f gs gs.length).length cap ∧ OwnV eInt 3 (kys f gs gs.length) a g2 cap H) v H' := by
  have hnd : (en :: gs).Nodup := by have h := hat.2; simp only [List.map_append, List.map_cons, List.map_nil, Hn.fst, List.cons_append, List.nil_append, List.nodup_cons] at h; first | exact List.nodup_cons.2 h.2.2 | exact List.nodup_cons.2 h.2
  refine (calls_of (P := Try.prog) (n := 32) (w0 := w) (S := ids ([(gl, .cells (#[.int .i64 (r), .map (some gm), .pointer (some ⟨en, 0, none⟩)]) 49 (0, 0))] ++ ((Hn 52 (en :: gs) f)))) (H := [(gl, .cells (#[.int .i64 (r), .map (some gm), .pointer (some ⟨en, 0, none⟩)]) 49 (0, 0))] ++ ((Hn 52 (en :: gs) f))) (T := fun v H => ∃ H1, (fun v H => ∃ a g2 cap, v = .slice a (kys f gs gs.length).length cap ∧ OwnV eInt 3 (kys f gs gs.length) a g2 cap H) v H1 ∧ (([(gl, .cells (#[.int .i64 (r), .map (some gm), .pointer (some ⟨en, 0, none⟩)]) 49 (0, 0))] ++ ((Hn 52 (en :: gs) f)) : Hp) ++ H1).Sublist H) Try.func11 rfl Try.ntmps11 (Nat.le_of_ble_eq_true rfl) [.tmp 2] rfl hat.st ?_).mono fun e w' ⟨v, H', he, hs, H1, hT, hsub⟩ => ⟨v, H1, he, St.pure hat hs hsub, hT⟩
  refine c_seq fun K1 hK1 => ?_
  refine c_region ?_
  refine o_y (v := .slice none 0 0) rfl rfl (y_assign rfl) ?_
  refine o_nil ?_
  refine hK1 _ _ ?_
  refine c_seq fun K2 hK2 => ?_
  refine c_seq fun K3 hK3 => ?_
  refine c_region ?_
  refine o_y (v := .pointer (some ⟨gl, 0, none⟩)) rfl rfl (y_move rfl) ?_
  refine o_y (v := .bool (false)) rfl rfl (y_call (vs := [.pointer (some ⟨gl, 0, none⟩)]) b21 rfl (fun w hw => f21_some gl gm en r w (hw.sat ((List.nil_sublist _).cons_cons _)))) ?_
  refine o_nil ?_
  refine hK3 _ _ ?_
  refine c_cond (t := false) rfl (fun h => by cases h) (fun _ => ?_)
  refine c_skip ?_
  refine hK2 _ _ ?_
  refine c_seq fun K4 hK4 => ?_
  refine c_region ?_
  refine o_y (v := .slice none 0 0) rfl rfl (y_assign rfl) ?_
  refine o_nil ?_
  refine hK4 _ _ ?_
  refine c_seq fun K5 hK5 => ?_
  refine c_seq fun K6 hK6 => ?_
  refine c_region ?_
  refine o_y (v := .pointer (some ⟨gl, 0, none⟩)) rfl rfl (y_move rfl) ?_
  refine o_y (v := .pointer (some ⟨gl, 0, none⟩)) rfl rfl (y_nilCheck rfl) ?_
  refine o_y (v := .pointer (some ⟨gl, 2, none⟩)) rfl rfl (y_fieldAddr (k := 2) rfl Try.underlying49 rfl rfl ⟨_, s47⟩ (by first | rfl | omega)) ?_
  refine o_y (v := .pointer (some ⟨en, 0, none⟩)) rfl rfl (y_load rfl Try.underlying47 rfl (Rd.one (k := 0) rfl rfl)) ?_
  refine o_y (v := .pointer (some ⟨en, 0, none⟩)) rfl rfl (y_nilCheck rfl) ?_
  refine o_y (v := .pointer (some ⟨en, 3, none⟩)) rfl rfl (y_fieldAddr (k := 3) rfl Try.underlying52 rfl rfl ⟨_, s47⟩ (by first | rfl | omega)) ?_
  refine o_y (v := .pointer (some ⟨W en gs (0 + 1), 0, none⟩)) rfl rfl (y_load rfl Try.underlying47 rfl (Rd.nd (t := 52) (il := en :: gs) (f := f) (fun p hp => by first | exact List.mem_append_right _ hp | exact (List.mem_cons_of_mem _ hp)) (by first | assumption | exact W_mem _ _ _ | exact List.mem_cons_self .. | exact List.mem_cons_of_mem _ (by first | assumption | exact W_mem _ _ _ | exact List.mem_cons_self ..)) (nd3 ((hlk 0 (Nat.zero_le _)).1)))) ?_
  refine o_y (v := .pointer (some ⟨W en gs (0 + 1), 0, none⟩)) rfl rfl (y_assign rfl) ?_
  refine o_nil ?_
  refine hK6 _ _ ?_
  refine c_block ?_
  refine c_loop (fun d R H => ∃ (j : Nat) (a : Option Addr) (g2 : Nat) (cap : Nat) (Hx : Hp), d = gs.length - (j) ∧ (j ≤ gs.length) ∧ (OwnV eInt 3 (kys f gs (j)) a g2 cap Hx) ∧ R 0 = .pointer (some ⟨gl, 0, none⟩) ∧ R 4 = .pointer (some ⟨W en gs (j + 1), 0, none⟩) ∧ R 3 = .slice (a) ((kys f gs (j)).length) (cap) ∧ H = ([(gl, .cells (#[.int .i64 (r), .map (some gm), .pointer (some ⟨en, 0, none⟩)]) 49 (0, 0))] ++ ((Hn 52 (en :: gs) f) ++ Hx) : Hp)) (gs.length - (0)) ?_ ?_
  ·
    refine ⟨0, none, 0, 0, [], rfl, by omega, OwnV.none', rfl, rfl, rfl, ?_⟩
    simp; first | done | rfl
  ·
    rintro d1 R1 _ ⟨j, a, g2, cap, Hx, hd1, hv1_0, hv1_1, h1_0, h1_4, h1_3, rfl⟩
    have hsl := kys_len f gs j hv1_0
    have hol := hv1_1.le
    have hom := hv1_1.mx
    simp only [maxLen] at hom
    refine c_seq fun K7 hK7 => ?_
    refine c_seq fun K8 hK8 => ?_
    refine c_region ?_
    refine o_y (v := .pointer (some ⟨W en gs (j + 1), 0, none⟩)) rfl rfl (y_move h1_4) ?_
    refine o_y (v := .pointer (some ⟨gl, 0, none⟩)) rfl rfl (y_move h1_0) ?_
    refine o_y (v := .pointer (some ⟨gl, 0, none⟩)) rfl rfl (y_nilCheck rfl) ?_
    refine o_y (v := .pointer (some ⟨gl, 2, none⟩)) rfl rfl (y_fieldAddr (k := 2) rfl Try.underlying49 rfl rfl ⟨_, s47⟩ (by first | rfl | omega)) ?_
    refine o_y (v := .pointer (some ⟨en, 0, none⟩)) rfl rfl (y_load rfl Try.underlying47 rfl (Rd.one (k := 0) rfl rfl)) ?_
    refine o_y (v := .bool (decide (W en gs (j + 1) ≠ en))) rfl rfl (y_neqP rfl rfl Try.underlying47 ⟨_, s52⟩ (Hn.at_ (t := 52) (il := en :: gs) (f := f) (fun p hp => by first | exact List.mem_append_right _ (List.mem_append_left _ hp) | exact (List.mem_cons_of_mem _ (List.mem_append_left _ hp))) (by first | assumption | exact W_mem _ _ _ | exact List.mem_cons_self .. | exact List.mem_cons_of_mem _ (by first | assumption | exact W_mem _ _ _ | exact List.mem_cons_self ..))) (Hn.at_ (t := 52) (il := en :: gs) (f := f) (fun p hp => by first | exact List.mem_append_right _ (List.mem_append_left _ hp) | exact (List.mem_cons_of_mem _ (List.mem_append_left _ hp))) (by first | assumption | exact W_mem _ _ _ | exact List.mem_cons_self .. | exact List.mem_cons_of_mem _ (by first | assumption | exact W_mem _ _ _ | exact List.mem_cons_self ..))) rfl) ?_
    refine o_nil ?_
    refine hK8 _ _ ?_
    refine c_cond (t := decide (W en gs (j + 1) ≠ en)) rfl (fun hc1 => ?_) (fun hc1 => ?_)
    ·
      replace hc1 := of_decide_eq_true hc1
      -- way LT
      have hjl : j < gs.length := W_lt hv1_0 hc1
      refine c_skip ?_
      refine hK7 _ _ ?_
      refine c_seq fun K9 hK9 => ?_
      refine c_block ?_
      refine c_region ?_
      refine o_y (v := .slice (a) ((kys f gs (j)).length) (cap)) rfl rfl (y_move h1_3) ?_
      refine o_y (v := .pointer (some ⟨W en gs (j + 1), 0, none⟩)) rfl rfl (y_move h1_4) ?_
      refine o_y (v := .pointer (some ⟨W en gs (j + 1), 0, none⟩)) rfl rfl (y_nilCheck rfl) ?_
      refine o_y (v := .pointer (some ⟨W en gs (j + 1), 0, none⟩)) rfl rfl (y_fieldAddr (k := 0) rfl Try.underlying52 rfl rfl ⟨_, s3⟩ (by first | rfl | omega)) ?_
      refine o_y (v := .int .i64 ((f (W en gs (j + 1))).k)) rfl rfl (y_load rfl Try.underlying3 rfl (Rd.nd (t := 52) (il := en :: gs) (f := f) (fun p hp => by first | exact List.mem_append_right _ (List.mem_append_left _ hp) | exact (List.mem_cons_of_mem _ (List.mem_append_left _ hp))) (by first | assumption | exact W_mem _ _ _ | exact List.mem_cons_self .. | exact List.mem_cons_of_mem _ (by first | assumption | exact W_mem _ _ _ | exact List.mem_cons_self ..)) (nd0 (rfl)))) ?_
      refine o_buildRow SL22 ([((f (W en gs (j + 1))).k)] : List Int) (fun x => .int .i64 x) (fun _ => rfl) rfl rfl (by rw [Array.toList_map]; rfl) (by simp) (by simp [eInt]) fun g1 cg1 hrg1 => ?_
      refine o_appendV SL22 ([(g1, .cells (cg1) 3 (0, 0)), (gl, .cells (#[.int .i64 (r), .map (some gm), .pointer (some ⟨en, 0, none⟩)]) 49 (0, 0))] ++ ((Hn 52 (en :: gs) f))) (fun Hy => [(g1, .cells (cg1) 3 (0, 0)), (gl, .cells (#[.int .i64 (r), .map (some gm), .pointer (some ⟨en, 0, none⟩)]) 49 (0, 0))] ++ ((Hn 52 (en :: gs) f) ++ Hy)) rfl (fun Hy => by have h := List.perm_append_comm (l₁ := ([(g1, .cells (cg1) 3 (0, 0)), (gl, .cells (#[.int .i64 (r), .map (some gm), .pointer (some ⟨en, 0, none⟩)]) 49 (0, 0))] ++ ((Hn 52 (en :: gs) f)) : Hp)) (l₂ := Hy); first | exact h | simpa [Value.cells] using h) (by have h := List.perm_append_comm_assoc ([(g1, .cells (cg1) 3 (0, 0)), (gl, .cells (#[.int .i64 (r), .map (some gm), .pointer (some ⟨en, 0, none⟩)]) 49 (0, 0))] ++ ((Hn 52 (en :: gs) f)) : Hp) Hx ([] : Hp); first | exact h | simpa [Value.cells] using h) hv1_1 rfl (by first | omega | (simp; done) | (simp; omega)) rfl (by first | omega | (simp; done) | (simp; omega)) (SlG.row (k := 0) rfl hrg1) (by simp only [maxLen] <;> first | omega | (simp; done) | (simp; omega)) (by first | omega | (simp; done) | (simp; omega)) fun ap3 gp3 capp3 Hp3 hvp3 => ?_
      have hwp3 := hvp3
      rw [show (kys f gs (j)) ++ ([((f (W en gs (j + 1))).k)]) = kys f gs (j + 1) from kys_s f en gs j (by omega)] at hwp3
      refine o_y (v := .slice (ap3) (((kys f gs (j)).length) + 1) (capp3)) rfl rfl (y_assign rfl) ?_
      refine o_nil ?_
      refine hK9 _ _ ?_
      refine c_region ?_
      refine o_y (v := .pointer (some ⟨W en gs (j + 1), 0, none⟩)) rfl rfl (y_move h1_4) ?_
      refine o_y (v := .pointer (some ⟨W en gs (j + 1), 0, none⟩)) rfl rfl (y_nilCheck rfl) ?_
      refine o_y (v := .pointer (some ⟨W en gs (j + 1), 3, none⟩)) rfl rfl (y_fieldAddr (k := 3) rfl Try.underlying52 rfl rfl ⟨_, s47⟩ (by first | rfl | omega)) ?_
      refine o_y (v := .pointer (some ⟨W en gs (j + 1 + 1), 0, none⟩)) rfl rfl (y_load rfl Try.underlying47 rfl (Rd.nd (t := 52) (il := en :: gs) (f := f) (fun p hp => by first | exact List.mem_append_right _ (List.mem_append_left _ hp) | exact (List.mem_cons_of_mem _ (List.mem_cons_of_mem _ (List.mem_append_left _ hp)))) (by first | assumption | exact W_mem _ _ _ | exact List.mem_cons_self .. | exact List.mem_cons_of_mem _ (by first | assumption | exact W_mem _ _ _ | exact List.mem_cons_self ..)) (nd3 ((hlk (j + 1) (by omega)).1)))) ?_
      refine o_y (v := .pointer (some ⟨W en gs (j + 1 + 1), 0, none⟩)) rfl rfl (y_assign rfl) ?_
      refine o_forget (H' := [(gl, .cells (#[.int .i64 (r), .map (some gm), .pointer (some ⟨en, 0, none⟩)]) 49 (0, 0))] ++ ((Hn 52 (en :: gs) f) ++ Hp3)) (((List.Sublist.refl _).cons_cons _).cons _) ?_
      refine o_nil ?_
      refine ⟨_, by omega, j + 1, ap3, gp3, capp3, Hp3, rfl, by omega, hwp3, h1_0, rfl, (len_eq (by rw [← kys_s f en gs j (by omega), List.length_append]; rfl)), rfl⟩
    ·
      replace hc1 := of_decide_eq_false hc1
      -- way LF
      refine c_exit ?_
      refine hK5 _ _ ?_
      refine c_seq fun K10 hK10 => ?_
      refine c_region ?_
      refine o_y (v := .slice (a) ((kys f gs (j)).length) (cap)) rfl rfl (y_move h1_3) ?_
      refine o_y (v := .slice (a) ((kys f gs (j)).length) (cap)) rfl rfl (y_assign rfl) ?_
      refine o_nil ?_
      refine hK10 _ _ ?_
      refine c_ret ?_
      refine fun w hw => ⟨[.slice (a) ((kys f gs (j)).length) (cap)], ⟨rfl, trivial⟩, ?_⟩
      have hjj : j = gs.length := W_eq hnd hv1_0 (Classical.byContradiction hc1)
      subst hjj
      exact ⟨Hx, ⟨_, _, _, rfl, hv1_1⟩, (((List.Sublist.refl _).cons_cons _) : (([(gl, .cells #[.int .i64 (r), .map (some gm), .pointer (some ⟨en, 0, none⟩)] 49 (0, 0))] ++ Hn 52 (en :: gs) (f) : Hp) ++ Hx).Sublist _)⟩
      first | done | rfl

set_option maxRecDepth 100000 in
set_option maxHeartbeats 4000000 in
theorem f13_PinIs (gl gm en : Nat) (r : Int) (es : Array MapEntry) (cl : Nat) (mp : List (Int × Nat)) (il : List Nat) (f : Nat → Nd) (k : Int) (b : Bool) (x : Nat) (w : World) (hM : MapC mp es) (hx : x ∈ il) (hl : lookM mp k = some x) (hat : At ([(gl, .cells (#[.int .i64 (r), .map (some gm), .pointer (some ⟨en, 0, none⟩)]) 49 (0, 0)), (gm, .map (es) (cl))] ++ ((Hn 52 (il) f))) w) :
    Calls Try.prog 13 [.pointer (some ⟨gl, 0, none⟩), .int .i64 (k), .bool (b)].toArray w fun e w' => ∃ v H', e = .returned v ∧ St w (ids ([(gl, .cells (#[.int .i64 (r), .map (some gm), .pointer (some ⟨en, 0, none⟩)]) 49 (0, 0)), (gm, .map (es) (cl))] ++ ((Hn 52 (il) f)))) H' w' ∧ (fun v H => v = .int .i64 (0) ∧ H = ([(gl, .cells #[.int .i64 (r), .map (some gm), .pointer (some ⟨en, 0, none⟩)] 49 (0, 0)), (gm, .map es cl)] ++ Hn 52 (il) (setP f x b) : Hp)) v H' := by
  have hnd : il.Nodup := by have h := hat.2; simp only [List.map_append, List.map_cons, List.map_nil, Hn.fst, List.cons_append, List.nil_append, List.nodup_cons] at h; first | exact h | exact h.2 | exact h.2.2
  refine (calls_of (P := Try.prog) (n := 22) (w0 := w) (S := ids ([(gl, .cells (#[.int .i64 (r), .map (some gm), .pointer (some ⟨en, 0, none⟩)]) 49 (0, 0)), (gm, .map (es) (cl))] ++ ((Hn 52 (il) f)))) (H := [(gl, .cells (#[.int .i64 (r), .map (some gm), .pointer (some ⟨en, 0, none⟩)]) 49 (0, 0)), (gm, .map (es) (cl))] ++ ((Hn 52 (il) f))) (T := fun v H => ∃ H1, (fun v H => v = .int .i64 (0) ∧ H = ([(gl, .cells #[.int .i64 (r), .map (some gm), .pointer (some ⟨en, 0, none⟩)] 49 (0, 0)), (gm, .map es cl)] ++ Hn 52 (il) (setP f x b) : Hp)) v H1 ∧ (H1 : Hp).Sublist H) Try.func13 rfl Try.ntmps13 (Nat.le_of_ble_eq_true rfl) [.tmp 6] rfl hat.st ?_).mono fun e w' ⟨v, H', he, hs, H1, hT, hsub⟩ => ⟨v, H1, he, hs.drop hsub, hT⟩
  refine c_seq fun K1 hK1 => ?_
  refine c_region ?_
  refine o_y (v := .int .i64 (0)) rfl rfl (y_assign rfl) ?_
  refine o_nil ?_
  refine hK1 _ _ ?_
  refine c_seq fun K2 hK2 => ?_
  refine c_region ?_
  refine o_y (v := .pointer (some ⟨gl, 0, none⟩)) rfl rfl (y_move rfl) ?_
  refine o_y (v := .int .i64 (k)) rfl rfl (y_move rfl) ?_
  refine o_y (v := .tuple #[.pointer (some ⟨x, 0, none⟩), .int .i64 (0)]) rfl rfl (y_call (vs := [.pointer (some ⟨gl, 0, none⟩), .int .i64 (k)]) b25 rfl (fun w hw => f25_findIs gl gm en r es cl (mp) (k) (x) w hM hl (hw.sat (((List.nil_sublist _).cons_cons _).cons_cons _)))) ?_
  refine o_y (v := .tuple #[.pointer (some ⟨x, 0, none⟩), .int .i64 (0)]) rfl rfl (y_move rfl) ?_
  refine o_y (v := .pointer (some ⟨x, 0, none⟩)) rfl rfl (y_extract (vs := #[.pointer (some ⟨x, 0, none⟩), .int .i64 (0)]) rfl rfl) ?_
  refine o_y (v := .int .i64 (0)) rfl rfl (y_extract (vs := #[.pointer (some ⟨x, 0, none⟩), .int .i64 (0)]) rfl rfl) ?_
  refine o_y (v := .pointer (some ⟨x, 0, none⟩)) rfl rfl (y_assign rfl) ?_
  refine o_y (v := .int .i64 (0)) rfl rfl (y_assign rfl) ?_
  refine o_nil ?_
  refine hK2 _ _ ?_
  refine c_seq fun K3 hK3 => ?_
  refine c_seq fun K4 hK4 => ?_
  refine c_region ?_
  refine o_y (v := .int .i64 (0)) rfl rfl (y_move rfl) ?_
  refine o_y (v := .bool (true)) rfl rfl (y_eql rfl rfl (by decide)) ?_
  refine o_nil ?_
  refine hK4 _ _ ?_
  refine c_cond (t := true) rfl (fun _ => ?_) (fun h => by cases h)
  refine c_region ?_
  refine o_y (v := .pointer (some ⟨x, 0, none⟩)) rfl rfl (y_move rfl) ?_
  refine o_y (v := .bool (b)) rfl rfl (y_move rfl) ?_
  refine o_y (v := .pointer (some ⟨x, 0, none⟩)) rfl rfl (y_nilCheck rfl) ?_
  refine o_y (v := .pointer (some ⟨x, 1, none⟩)) rfl rfl (y_fieldAddr (k := 1) rfl Try.underlying52 rfl rfl ⟨_, s4⟩ (by first | rfl | omega)) ?_
  refine o_storeN (et := 52) (v := .bool (b)) (setP f (x) (b)) ([(gl, .cells (#[.int .i64 (r), .map (some gm), .pointer (some ⟨en, 0, none⟩)]) 49 (0, 0)), (gm, .map (es) (cl))]) (fun Hy => [(gl, .cells (#[.int .i64 (r), .map (some gm), .pointer (some ⟨en, 0, none⟩)]) 49 (0, 0)), (gm, .map (es) (cl))] ++ (Hy)) (fun Hy => by have h := List.perm_append_comm (l₁ := ([(gl, .cells (#[.int .i64 (r), .map (some gm), .pointer (some ⟨en, 0, none⟩)]) 49 (0, 0)), (gm, .map (es) (cl))] : Hp)) (l₂ := Hy); first | exact h | simpa [Value.cells] using h) (by have h := List.perm_append_comm_assoc ([(gl, .cells (#[.int .i64 (r), .map (some gm), .pointer (some ⟨en, 0, none⟩)]) 49 (0, 0)), (gm, .map (es) (cl))] : Hp) (Hn 52 (il) f) ([] : Hp); first | exact h | simpa [Value.cells] using h) rfl hnd rfl rfl rfl rfl s4 (by first | assumption | exact W_mem _ _ _ | exact List.mem_cons_self .. | exact List.mem_cons_of_mem _ (by first | assumption | exact W_mem _ _ _ | exact List.mem_cons_self ..)) (by decide) (setP_c ..) (fun k hk => setP_ne _ _ _ _ hk) ?_
  refine o_nil ?_
  refine hK3 _ _ ?_
  refine c_seq fun K5 hK5 => ?_
  refine c_region ?_
  refine o_y (v := .int .i64 (0)) rfl rfl (y_move rfl) ?_
  refine o_y (v := .int .i64 (0)) rfl rfl (y_assign rfl) ?_
  refine o_nil ?_
  refine hK5 _ _ ?_
  refine c_ret ?_
  refine fun w hw => ⟨[.int .i64 (0)], ⟨rfl, trivial⟩, ?_⟩
  exact ⟨_, ⟨rfl, rfl⟩, ((((List.Sublist.refl _).cons_cons _).cons_cons _) : (([(gl, .cells #[.int .i64 (r), .map (some gm), .pointer (some ⟨en, 0, none⟩)] 49 (0, 0)), (gm, .map es cl)] ++ Hn 52 (il) (setP f x b) : Hp)).Sublist _)⟩
  first | done | rfl

set_option maxRecDepth 100000 in
set_option maxHeartbeats 4000000 in
theorem f15_DropIs (gl gm en : Nat) (r : Int) (es : Array MapEntry) (cl : Nat) (mp : List (Int × Nat)) (il : List Nat) (f : Nat → Nd) (k : Int) (x p q : Nat) (w : World) (hM : MapC mp es) (hx : x ∈ il) (hp : p ∈ il) (hq : q ∈ il) (ha : (f x).a = PP p) (hb : (f x).b = PP q) (hl : lookM mp k = some x) (hkx : lookM mp (f x).k = some x) (hat : At ([(gl, .cells (#[.int .i64 (r), .map (some gm), .pointer (some ⟨en, 0, none⟩)]) 49 (0, 0)), (gm, .map (es) (cl))] ++ ((Hn 52 (il) f))) w) :
    Calls Try.prog 15 [.pointer (some ⟨gl, 0, none⟩), .int .i64 (k)].toArray w fun e w' => ∃ v H', e = .returned v ∧ St w (ids ([(gl, .cells (#[.int .i64 (r), .map (some gm), .pointer (some ⟨en, 0, none⟩)]) 49 (0, 0)), (gm, .map (es) (cl))] ++ ((Hn 52 (il) f)))) H' w' ∧ (fun v H => v = .int .i64 (0) ∧ ∃ es' cl' mp', H = ([(gl, .cells #[.int .i64 (r), .map (some gm), .pointer (some ⟨en, 0, none⟩)] 49 (0, 0)), (gm, .map es' cl')] ++ Hn 52 (il) (unl f x p q) : Hp) ∧ MapC mp' es' ∧ mp.Perm (((f x).k, x) :: mp')) v H' := by
  have hnd : il.Nodup := by have h := hat.2; simp only [List.map_append, List.map_cons, List.map_nil, Hn.fst, List.cons_append, List.nil_append, List.nodup_cons] at h; first | exact h | exact h.2 | exact h.2.2
  refine (calls_of (P := Try.prog) (n := 19) (w0 := w) (S := ids ([(gl, .cells (#[.int .i64 (r), .map (some gm), .pointer (some ⟨en, 0, none⟩)]) 49 (0, 0)), (gm, .map (es) (cl))] ++ ((Hn 52 (il) f)))) (H := [(gl, .cells (#[.int .i64 (r), .map (some gm), .pointer (some ⟨en, 0, none⟩)]) 49 (0, 0)), (gm, .map (es) (cl))] ++ ((Hn 52 (il) f))) (T := fun v H => ∃ H1, (fun v H => v = .int .i64 (0) ∧ ∃ es' cl' mp', H = ([(gl, .cells #[.int .i64 (r), .map (some gm), .pointer (some ⟨en, 0, none⟩)] 49 (0, 0)), (gm, .map es' cl')] ++ Hn 52 (il) (unl f x p q) : Hp) ∧ MapC mp' es' ∧ mp.Perm (((f x).k, x) :: mp')) v H1 ∧ (H1 : Hp).Sublist H) Try.func15 rfl Try.ntmps15 (Nat.le_of_ble_eq_true rfl) [.tmp 4] rfl hat.st ?_).mono fun e w' ⟨v, H', he, hs, H1, hT, hsub⟩ => ⟨v, H1, he, hs.drop hsub, hT⟩
  refine c_seq fun K1 hK1 => ?_
  refine c_region ?_
  refine o_y (v := .int .i64 (0)) rfl rfl (y_assign rfl) ?_
  refine o_nil ?_
  refine hK1 _ _ ?_
  refine c_seq fun K2 hK2 => ?_
  refine c_region ?_
  refine o_y (v := .pointer (some ⟨gl, 0, none⟩)) rfl rfl (y_move rfl) ?_
  refine o_y (v := .int .i64 (k)) rfl rfl (y_move rfl) ?_
  refine o_y (v := .tuple #[.pointer (some ⟨x, 0, none⟩), .int .i64 (0)]) rfl rfl (y_call (vs := [.pointer (some ⟨gl, 0, none⟩), .int .i64 (k)]) b25 rfl (fun w hw => f25_findIs gl gm en r es cl (mp) (k) (x) w hM hl (hw.sat (((List.nil_sublist _).cons_cons _).cons_cons _)))) ?_
  refine o_y (v := .tuple #[.pointer (some ⟨x, 0, none⟩), .int .i64 (0)]) rfl rfl (y_move rfl) ?_
  refine o_y (v := .pointer (some ⟨x, 0, none⟩)) rfl rfl (y_extract (vs := #[.pointer (some ⟨x, 0, none⟩), .int .i64 (0)]) rfl rfl) ?_
  refine o_y (v := .int .i64 (0)) rfl rfl (y_extract (vs := #[.pointer (some ⟨x, 0, none⟩), .int .i64 (0)]) rfl rfl) ?_
  refine o_y (v := .pointer (some ⟨x, 0, none⟩)) rfl rfl (y_assign rfl) ?_
  refine o_y (v := .int .i64 (0)) rfl rfl (y_assign rfl) ?_
  refine o_nil ?_
  refine hK2 _ _ ?_
  refine c_seq fun K3 hK3 => ?_
  refine c_seq fun K4 hK4 => ?_
  refine c_region ?_
  refine o_y (v := .int .i64 (0)) rfl rfl (y_move rfl) ?_
  refine o_y (v := .bool (true)) rfl rfl (y_eql rfl rfl (by decide)) ?_
  refine o_nil ?_
  refine hK4 _ _ ?_
  refine c_cond (t := true) rfl (fun _ => ?_) (fun h => by cases h)
  refine c_region ?_
  refine o_y (v := .pointer (some ⟨gl, 0, none⟩)) rfl rfl (y_move rfl) ?_
  refine o_y (v := .pointer (some ⟨x, 0, none⟩)) rfl rfl (y_move rfl) ?_
  refine o_callS ([(gl, .cells (#[.int .i64 (r), .map (some gm), .pointer (some ⟨en, 0, none⟩)]) 49 (0, 0)), (gm, .map (es) (cl))] ++ ((Hn 52 (il) f))) ([]) (by first | exact List.Perm.refl _ | (simp only [List.append_nil]; first | done | exact List.Perm.refl _)) (vs := [.pointer (some ⟨gl, 0, none⟩), .pointer (some ⟨x, 0, none⟩)]) b24 rfl rfl (fun w hat => f24_drop gl gm en r es cl mp (il) f (x) (p) (q) w hM (by first | assumption | exact W_mem _ _ _ | exact List.mem_cons_self .. | exact List.mem_cons_of_mem _ (by first | assumption | exact W_mem _ _ _ | exact List.mem_cons_self ..)) (by first | assumption | exact W_mem _ _ _ | exact List.mem_cons_self .. | exact List.mem_cons_of_mem _ (by first | assumption | exact W_mem _ _ _ | exact List.mem_cons_self ..)) (by first | assumption | exact W_mem _ _ _ | exact List.mem_cons_self .. | exact List.mem_cons_of_mem _ (by first | assumption | exact W_mem _ _ _ | exact List.mem_cons_self ..)) (ha) (hb) hkx hat) ?_
  rintro _ _ ⟨rfl, esp1, clp1, mpp1, rfl, hMp1, hpp1⟩
  refine o_perm (H' := [(gl, .cells (#[.int .i64 (r), .map (some gm), .pointer (some ⟨en, 0, none⟩)]) 49 (0, 0)), (gm, .map (esp1) (clp1))] ++ ((Hn 52 (il) (unl f (x) (p) (q))))) (by first | exact List.Perm.refl _ | (simp only [List.append_nil]; first | done | exact List.Perm.refl _)) ?_
  refine o_nil ?_
  refine hK3 _ _ ?_
  refine c_seq fun K5 hK5 => ?_
  refine c_region ?_
  refine o_y (v := .int .i64 (0)) rfl rfl (y_move rfl) ?_
  refine o_y (v := .int .i64 (0)) rfl rfl (y_assign rfl) ?_
  refine o_nil ?_
  refine hK5 _ _ ?_
  refine c_ret ?_
  refine fun w hw => ⟨[.int .i64 (0)], ⟨rfl, trivial⟩, ?_⟩
  exact ⟨_, ⟨rfl, _, _, _, rfl, hMp1, ‹_›⟩, (((List.Sublist.refl _).cons_cons _).cons_cons _)⟩
  first | done | rfl

set_option maxRecDepth 100000 in
set_option maxHeartbeats 4000000 in
theorem f16_PinnedIs (gl gm en : Nat) (r : Int) (es : Array MapEntry) (cl : Nat) (mp : List (Int × Nat)) (il : List Nat) (f : Nat → Nd) (k : Int) (x : Nat) (w : World) (hM : MapC mp es) (hx : x ∈ il) (hl : lookM mp k = some x) (hat : At ([(gl, .cells (#[.int .i64 (r), .map (some gm), .pointer (some ⟨en, 0, none⟩)]) 49 (0, 0)), (gm, .map (es) (cl))] ++ ((Hn 52 (il) f))) w) :
    Calls Try.prog 16 [.pointer (some ⟨gl, 0, none⟩), .int .i64 (k)].toArray w fun e w' => e = .returned (.bool ((f x).p)) ∧ Below w.heap.size w w' := by
  have hnd : il.Nodup := by have h := hat.2; simp only [List.map_append, List.map_cons, List.map_nil, Hn.fst, List.cons_append, List.nil_append, List.nodup_cons] at h; first | exact h | exact h.2 | exact h.2.2
  refine (calls_of (P := Try.prog) (n := 21) (w0 := w) (S := ids ([(gl, .cells (#[.int .i64 (r), .map (some gm), .pointer (some ⟨en, 0, none⟩)]) 49 (0, 0)), (gm, .map (es) (cl))] ++ ((Hn 52 (il) f)))) (H := [(gl, .cells (#[.int .i64 (r), .map (some gm), .pointer (some ⟨en, 0, none⟩)]) 49 (0, 0)), (gm, .map (es) (cl))] ++ ((Hn 52 (il) f))) (T := fun v H => v = (.bool ((f x).p)) ∧ ([(gl, .cells (#[.int .i64 (r), .map (some gm), .pointer (some ⟨en, 0, none⟩)]) 49 (0, 0)), (gm, .map (es) (cl))] ++ ((Hn 52 (il) f)) : Hp).Sublist H) Try.func16 rfl Try.ntmps16 (Nat.le_of_ble_eq_true rfl) [.tmp 4] rfl hat.st ?_).mono fun e w' ⟨v, H', he, hs, hT, hsub⟩ => ⟨by rw [he, hT], St.same hat hs hsub⟩
  refine c_seq fun K1 hK1 => ?_
  refine c_region ?_
  refine o_y (v := .bool (false)) rfl rfl (y_assign rfl) ?_
  refine o_nil ?_
  refine hK1 _ _ ?_
  refine c_seq fun K2 hK2 => ?_
  refine c_region ?_
  refine o_y (v := .pointer (some ⟨gl, 0, none⟩)) rfl rfl (y_move rfl) ?_
  refine o_y (v := .int .i64 (k)) rfl rfl (y_move rfl) ?_
  refine o_y (v := .tuple #[.pointer (some ⟨x, 0, none⟩), .int .i64 (0)]) rfl rfl (y_call (vs := [.pointer (some ⟨gl, 0, none⟩), .int .i64 (k)]) b25 rfl (fun w hw => f25_findIs gl gm en r es cl (mp) (k) (x) w hM hl (hw.sat (((List.nil_sublist _).cons_cons _).cons_cons _)))) ?_
  refine o_y (v := .tuple #[.pointer (some ⟨x, 0, none⟩), .int .i64 (0)]) rfl rfl (y_move rfl) ?_
  refine o_y (v := .pointer (some ⟨x, 0, none⟩)) rfl rfl (y_extract (vs := #[.pointer (some ⟨x, 0, none⟩), .int .i64 (0)]) rfl rfl) ?_
  refine o_y (v := .int .i64 (0)) rfl rfl (y_extract (vs := #[.pointer (some ⟨x, 0, none⟩), .int .i64 (0)]) rfl rfl) ?_
  refine o_y (v := .pointer (some ⟨x, 0, none⟩)) rfl rfl (y_assign rfl) ?_
  refine o_y (v := .int .i64 (0)) rfl rfl (y_assign rfl) ?_
  refine o_nil ?_
  refine hK2 _ _ ?_
  refine c_seq fun K3 hK3 => ?_
  refine c_region ?_
  refine o_y (v := .int .i64 (0)) rfl rfl (y_move rfl) ?_
  refine o_y (v := .bool (true)) rfl rfl (y_eql rfl rfl (by decide)) ?_
  refine o_y (v := .bool (true)) rfl rfl (y_move rfl) ?_
  refine o_guard (j := 2) (d := 15) (b := true) rfl rfl rfl (fun _ => ?_) rfl (fun h => by cases h)
  refine o_y (v := .pointer (some ⟨x, 0, none⟩)) rfl rfl (y_move rfl) ?_
  refine o_guard (j := 2) (d := 15) (b := true) rfl rfl rfl (fun _ => ?_) rfl (fun h => by cases h)
  refine o_y (v := .pointer (some ⟨x, 0, none⟩)) rfl rfl (y_nilCheck rfl) ?_
  refine o_guard (j := 2) (d := 15) (b := true) rfl rfl rfl (fun _ => ?_) rfl (fun h => by cases h)
  refine o_y (v := .pointer (some ⟨x, 1, none⟩)) rfl rfl (y_fieldAddr (k := 1) rfl Try.underlying52 rfl rfl ⟨_, s4⟩ (by first | rfl | omega)) ?_
  refine o_guard (j := 2) (d := 15) (b := true) rfl rfl rfl (fun _ => ?_) rfl (fun h => by cases h)
  refine o_y (v := .bool ((f (x)).p)) rfl rfl (y_load rfl Try.underlying4 rfl (Rd.nd (t := 52) (il := il) (f := f) (fun p hp => by first | exact List.mem_append_right _ hp | exact (List.mem_cons_of_mem _ (List.mem_cons_of_mem _ hp))) (by first | assumption | exact W_mem _ _ _ | exact List.mem_cons_self .. | exact List.mem_cons_of_mem _ (by first | assumption | exact W_mem _ _ _ | exact List.mem_cons_self ..)) (nd1 (rfl)))) ?_
  refine o_y (v := .bool ((f (x)).p)) rfl rfl (y_pick (b := true) rfl rfl) ?_
  refine o_y (v := .bool ((f (x)).p)) rfl rfl (y_assign rfl) ?_
  refine o_nil ?_
  refine hK3 _ _ ?_
  refine c_ret ?_
  refine fun w hw => ⟨[.bool ((f (x)).p)], ⟨rfl, trivial⟩, ?_⟩
  exact ⟨rfl, (((List.Sublist.refl _).cons_cons _).cons_cons _)⟩
  first | done | rfl

set_option maxRecDepth 100000 in
set_option maxHeartbeats 4000000 in
theorem f14_HasIs (gl gm en : Nat) (r : Int) (es : Array MapEntry) (cl : Nat) (mp : List (Int × Nat)) (k : Int) (x : Nat) (w : World) (hM : MapC mp es) (hl : lookM mp k = some x) (hat : At ([(gl, .cells (#[.int .i64 (r), .map (some gm), .pointer (some ⟨en, 0, none⟩)]) 49 (0, 0)), (gm, .map (es) (cl))]) w) :
    Calls Try.prog 14 [.pointer (some ⟨gl, 0, none⟩), .int .i64 (k)].toArray w fun e w' => e = .returned (.bool (true)) ∧ Below w.heap.size w w' := by
  refine (calls_of (P := Try.prog) (n := 15) (w0 := w) (S := ids ([(gl, .cells (#[.int .i64 (r), .map (some gm), .pointer (some ⟨en, 0, none⟩)]) 49 (0, 0)), (gm, .map (es) (cl))])) (H := [(gl, .cells (#[.int .i64 (r), .map (some gm), .pointer (some ⟨en, 0, none⟩)]) 49 (0, 0)), (gm, .map (es) (cl))]) (T := fun v H => v = (.bool (true)) ∧ ([(gl, .cells (#[.int .i64 (r), .map (some gm), .pointer (some ⟨en, 0, none⟩)]) 49 (0, 0)), (gm, .map (es) (cl))] : Hp).Sublist H) Try.func14 rfl Try.ntmps14 (Nat.le_of_ble_eq_true rfl) [.tmp 4] rfl hat.st ?_).mono fun e w' ⟨v, H', he, hs, hT, hsub⟩ => ⟨by rw [he, hT], St.same hat hs hsub⟩
  refine c_seq fun K1 hK1 => ?_
  refine c_region ?_
  refine o_y (v := .bool (false)) rfl rfl (y_assign rfl) ?_
  refine o_nil ?_
  refine hK1 _ _ ?_
  refine c_seq fun K2 hK2 => ?_
  refine c_region ?_
  refine o_y (v := .pointer (some ⟨gl, 0, none⟩)) rfl rfl (y_move rfl) ?_
  refine o_y (v := .int .i64 (k)) rfl rfl (y_move rfl) ?_
  refine o_y (v := .tuple #[.pointer (some ⟨x, 0, none⟩), .int .i64 (0)]) rfl rfl (y_call (vs := [.pointer (some ⟨gl, 0, none⟩), .int .i64 (k)]) b25 rfl (fun w hw => f25_findIs gl gm en r es cl (mp) (k) (x) w hM hl (hw.sat ((List.Sublist.slnil.cons_cons _).cons_cons _)))) ?_
  refine o_y (v := .tuple #[.pointer (some ⟨x, 0, none⟩), .int .i64 (0)]) rfl rfl (y_move rfl) ?_
  refine o_y (v := .pointer (some ⟨x, 0, none⟩)) rfl rfl (y_extract (vs := #[.pointer (some ⟨x, 0, none⟩), .int .i64 (0)]) rfl rfl) ?_
  refine o_y (v := .int .i64 (0)) rfl rfl (y_extract (vs := #[.pointer (some ⟨x, 0, none⟩), .int .i64 (0)]) rfl rfl) ?_
  refine o_y (v := .pointer (some ⟨x, 0, none⟩)) rfl rfl (y_assign rfl) ?_
  refine o_y (v := .int .i64 (0)) rfl rfl (y_assign rfl) ?_
  refine o_nil ?_
  refine hK2 _ _ ?_
  refine c_seq fun K3 hK3 => ?_
  refine c_region ?_
  refine o_y (v := .int .i64 (0)) rfl rfl (y_move rfl) ?_
  refine o_y (v := .bool (true)) rfl rfl (y_eql rfl rfl (by decide)) ?_
  refine o_y (v := .bool (true)) rfl rfl (y_assign rfl) ?_
  refine o_nil ?_
  refine hK3 _ _ ?_
  refine c_ret ?_
  refine fun w hw => ⟨[.bool (true)], ⟨rfl, trivial⟩, ?_⟩
  exact ⟨rfl, ((List.Sublist.slnil.cons_cons _).cons_cons _)⟩
  first | done | rfl

set_option maxRecDepth 100000 in
set_option maxHeartbeats 4000000 in
theorem f13_PinNo (gl gm en : Nat) (r : Int) (es : Array MapEntry) (cl : Nat) (mp : List (Int × Nat)) (k : Int) (b : Bool) (w : World) (hM : MapC mp es) (hl : lookM mp k = none) (hat : At ([(gl, .cells (#[.int .i64 (r), .map (some gm), .pointer (some ⟨en, 0, none⟩)]) 49 (0, 0)), (gm, .map (es) (cl))]) w) :
    Calls Try.prog 13 [.pointer (some ⟨gl, 0, none⟩), .int .i64 (k), .bool (b)].toArray w fun e w' => e = .returned (.int .i64 (7)) ∧ Below w.heap.size w w' := by
  refine (calls_of (P := Try.prog) (n := 22) (w0 := w) (S := ids ([(gl, .cells (#[.int .i64 (r), .map (some gm), .pointer (some ⟨en, 0, none⟩)]) 49 (0, 0)), (gm, .map (es) (cl))])) (H := [(gl, .cells (#[.int .i64 (r), .map (some gm), .pointer (some ⟨en, 0, none⟩)]) 49 (0, 0)), (gm, .map (es) (cl))]) (T := fun v H => v = (.int .i64 (7)) ∧ ([(gl, .cells (#[.int .i64 (r), .map (some gm), .pointer (some ⟨en, 0, none⟩)]) 49 (0, 0)), (gm, .map (es) (cl))] : Hp).Sublist H) Try.func13 rfl Try.ntmps13 (Nat.le_of_ble_eq_true rfl) [.tmp 6] rfl hat.st ?_).mono fun e w' ⟨v, H', he, hs, hT, hsub⟩ => ⟨by rw [he, hT], St.same hat hs hsub⟩
  refine c_seq fun K1 hK1 => ?_
  refine c_region ?_
  refine o_y (v := .int .i64 (0)) rfl rfl (y_assign rfl) ?_
  refine o_nil ?_
  refine hK1 _ _ ?_
  refine c_seq fun K2 hK2 => ?_
  refine c_region ?_
  refine o_y (v := .pointer (some ⟨gl, 0, none⟩)) rfl rfl (y_move rfl) ?_
  refine o_y (v := .int .i64 (k)) rfl rfl (y_move rfl) ?_
  refine o_y (v := .tuple #[.pointer none, .int .i64 (7)]) rfl rfl (y_call (vs := [.pointer (some ⟨gl, 0, none⟩), .int .i64 (k)]) b25 rfl (fun w hw => f25_findNo gl gm en r es cl (mp) (k) w hM hl (hw.sat ((List.Sublist.slnil.cons_cons _).cons_cons _)))) ?_
  refine o_y (v := .tuple #[.pointer none, .int .i64 (7)]) rfl rfl (y_move rfl) ?_
  refine o_y (v := .pointer none) rfl rfl (y_extract (vs := #[.pointer none, .int .i64 (7)]) rfl rfl) ?_
  refine o_y (v := .int .i64 (7)) rfl rfl (y_extract (vs := #[.pointer none, .int .i64 (7)]) rfl rfl) ?_
  refine o_y (v := .pointer none) rfl rfl (y_assign rfl) ?_
  refine o_y (v := .int .i64 (7)) rfl rfl (y_assign rfl) ?_
  refine o_nil ?_
  refine hK2 _ _ ?_
  refine c_seq fun K3 hK3 => ?_
  refine c_seq fun K4 hK4 => ?_
  refine c_region ?_
  refine o_y (v := .int .i64 (7)) rfl rfl (y_move rfl) ?_
  refine o_y (v := .bool (false)) rfl rfl (y_eql rfl rfl (by decide)) ?_
  refine o_nil ?_
  refine hK4 _ _ ?_
  refine c_cond (t := false) rfl (fun h => by cases h) (fun _ => ?_)
  refine c_skip ?_
  refine hK3 _ _ ?_
  refine c_seq fun K5 hK5 => ?_
  refine c_region ?_
  refine o_y (v := .int .i64 (7)) rfl rfl (y_move rfl) ?_
  refine o_y (v := .int .i64 (7)) rfl rfl (y_assign rfl) ?_
  refine o_nil ?_
  refine hK5 _ _ ?_
  refine c_ret ?_
  refine fun w hw => ⟨[.int .i64 (7)], ⟨rfl, trivial⟩, ?_⟩
  exact ⟨rfl, ((List.Sublist.slnil.cons_cons _).cons_cons _)⟩
  first | done | rfl

set_option maxRecDepth 100000 in
set_option maxHeartbeats 4000000 in
theorem f13_PinN (k : Int) (b : Bool) (w : World)  :
    Calls Try.prog 13 [.pointer none, .int .i64 (k), .bool (b)].toArray w fun e w' => e = .returned (.int .i64 (1)) ∧ Below w.heap.size w w' := by
  refine (calls_of (P := Try.prog) (n := 22) (w0 := w) (S := fun _ => False) (H := []) (T := fun v _ => v = (.int .i64 (1))) Try.func13 rfl Try.ntmps13 (Nat.le_of_ble_eq_true rfl) [.tmp 6] rfl (St.nil w _) ?_).mono fun e w' ⟨v, H', he, hs, hT⟩ => ⟨by rw [he, hT], hs.below⟩
  refine c_seq fun K1 hK1 => ?_
  refine c_region ?_
  refine o_y (v := .int .i64 (0)) rfl rfl (y_assign rfl) ?_
  refine o_nil ?_
  refine hK1 _ _ ?_
  refine c_seq fun K2 hK2 => ?_
  refine c_region ?_
  refine o_y (v := .pointer none) rfl rfl (y_move rfl) ?_
  refine o_y (v := .int .i64 (k)) rfl rfl (y_move rfl) ?_
  refine o_y (v := .tuple #[.pointer none, .int .i64 (1)]) rfl rfl (y_call (vs := [.pointer none, .int .i64 (k)]) b25 rfl (fun w hw => f25_findN (k) w)) ?_
  refine o_y (v := .tuple #[.pointer none, .int .i64 (1)]) rfl rfl (y_move rfl) ?_
  refine o_y (v := .pointer none) rfl rfl (y_extract (vs := #[.pointer none, .int .i64 (1)]) rfl rfl) ?_
  refine o_y (v := .int .i64 (1)) rfl rfl (y_extract (vs := #[.pointer none, .int .i64 (1)]) rfl rfl) ?_
  refine o_y (v := .pointer none) rfl rfl (y_assign rfl) ?_
  refine o_y (v := .int .i64 (1)) rfl rfl (y_assign rfl) ?_
  refine o_nil ?_
  refine hK2 _ _ ?_
  refine c_seq fun K3 hK3 => ?_
  refine c_seq fun K4 hK4 => ?_
  refine c_region ?_
  refine o_y (v := .int .i64 (1)) rfl rfl (y_move rfl) ?_
  refine o_y (v := .bool (false)) rfl rfl (y_eql rfl rfl (by decide)) ?_
  refine o_nil ?_
  refine hK4 _ _ ?_
  refine c_cond (t := false) rfl (fun h => by cases h) (fun _ => ?_)
  refine c_skip ?_
  refine hK3 _ _ ?_
  refine c_seq fun K5 hK5 => ?_
  refine c_region ?_
  refine o_y (v := .int .i64 (1)) rfl rfl (y_move rfl) ?_
  refine o_y (v := .int .i64 (1)) rfl rfl (y_assign rfl) ?_
  refine o_nil ?_
  refine hK5 _ _ ?_
  refine c_ret ?_
  refine fun w hw => ⟨[.int .i64 (1)], ⟨rfl, trivial⟩, ?_⟩
  exact rfl

set_option maxRecDepth 100000 in
set_option maxHeartbeats 4000000 in
theorem f13_PinZ (gl : Nat) (k : Int) (b : Bool) (w : World)  (hat : At ([(gl, .cells (#[.int .i64 (0), .map none, .pointer none]) 49 (0, 0))]) w) :
    Calls Try.prog 13 [.pointer (some ⟨gl, 0, none⟩), .int .i64 (k), .bool (b)].toArray w fun e w' => e = .returned (.int .i64 (1)) ∧ Below w.heap.size w w' := by
  refine (calls_of (P := Try.prog) (n := 22) (w0 := w) (S := ids ([(gl, .cells (#[.int .i64 (0), .map none, .pointer none]) 49 (0, 0))])) (H := [(gl, .cells (#[.int .i64 (0), .map none, .pointer none]) 49 (0, 0))]) (T := fun v H => v = (.int .i64 (1)) ∧ ([(gl, .cells (#[.int .i64 (0), .map none, .pointer none]) 49 (0, 0))] : Hp).Sublist H) Try.func13 rfl Try.ntmps13 (Nat.le_of_ble_eq_true rfl) [.tmp 6] rfl hat.st ?_).mono fun e w' ⟨v, H', he, hs, hT, hsub⟩ => ⟨by rw [he, hT], St.same hat hs hsub⟩
  refine c_seq fun K1 hK1 => ?_
  refine c_region ?_
  refine o_y (v := .int .i64 (0)) rfl rfl (y_assign rfl) ?_
  refine o_nil ?_
  refine hK1 _ _ ?_
  refine c_seq fun K2 hK2 => ?_
  refine c_region ?_
  refine o_y (v := .pointer (some ⟨gl, 0, none⟩)) rfl rfl (y_move rfl) ?_
  refine o_y (v := .int .i64 (k)) rfl rfl (y_move rfl) ?_
  refine o_y (v := .tuple #[.pointer none, .int .i64 (1)]) rfl rfl (y_call (vs := [.pointer (some ⟨gl, 0, none⟩), .int .i64 (k)]) b25 rfl (fun w hw => f25_findZ gl (k) w (hw.sat (List.Sublist.slnil.cons_cons _)))) ?_
  refine o_y (v := .tuple #[.pointer none, .int .i64 (1)]) rfl rfl (y_move rfl) ?_
  refine o_y (v := .pointer none) rfl rfl (y_extract (vs := #[.pointer none, .int .i64 (1)]) rfl rfl) ?_
  refine o_y (v := .int .i64 (1)) rfl rfl (y_extract (vs := #[.pointer none, .int .i64 (1)]) rfl rfl) ?_
  refine o_y (v := .pointer none) rfl rfl (y_assign rfl) ?_
  refine o_y (v := .int .i64 (1)) rfl rfl (y_assign rfl) ?_
  refine o_nil ?_
  refine hK2 _ _ ?_
  refine c_seq fun K3 hK3 => ?_
  refine c_seq fun K4 hK4 => ?_
  refine c_region ?_
  refine o_y (v := .int .i64 (1)) rfl rfl (y_move rfl) ?_
  refine o_y (v := .bool (false)) rfl rfl (y_eql rfl rfl (by decide)) ?_
  refine o_nil ?_
  refine hK4 _ _ ?_
  refine c_cond (t := false) rfl (fun h => by cases h) (fun _ => ?_)
  refine c_skip ?_
  refine hK3 _ _ ?_
  refine c_seq fun K5 hK5 => ?_
  refine c_region ?_
  refine o_y (v := .int .i64 (1)) rfl rfl (y_move rfl) ?_
  refine o_y (v := .int .i64 (1)) rfl rfl (y_assign rfl) ?_
  refine o_nil ?_
  refine hK5 _ _ ?_
  refine c_ret ?_
  refine fun w hw => ⟨[.int .i64 (1)], ⟨rfl, trivial⟩, ?_⟩
  exact ⟨rfl, (List.Sublist.slnil.cons_cons _)⟩
  first | done | rfl

set_option maxRecDepth 100000 in
set_option maxHeartbeats 4000000 in
theorem f14_HasNo (gl gm en : Nat) (r : Int) (es : Array MapEntry) (cl : Nat) (mp : List (Int × Nat)) (k : Int) (w : World) (hM : MapC mp es) (hl : lookM mp k = none) (hat : At ([(gl, .cells (#[.int .i64 (r), .map (some gm), .pointer (some ⟨en, 0, none⟩)]) 49 (0, 0)), (gm, .map (es) (cl))]) w) :
    Calls Try.prog 14 [.pointer (some ⟨gl, 0, none⟩), .int .i64 (k)].toArray w fun e w' => e = .returned (.bool (false)) ∧ Below w.heap.size w w' := by
  refine (calls_of (P := Try.prog) (n := 15) (w0 := w) (S := ids ([(gl, .cells (#[.int .i64 (r), .map (some gm), .pointer (some ⟨en, 0, none⟩)]) 49 (0, 0)), (gm, .map (es) (cl))])) (H := [(gl, .cells (#[.int .i64 (r), .map (some gm), .pointer (some ⟨en, 0, none⟩)]) 49 (0, 0)), (gm, .map (es) (cl))]) (T := fun v H => v = (.bool (false)) ∧ ([(gl, .cells (#[.int .i64 (r), .map (some gm), .pointer (some ⟨en, 0, none⟩)]) 49 (0, 0)), (gm, .map (es) (cl))] : Hp).Sublist H) Try.func14 rfl Try.ntmps14 (Nat.le_of_ble_eq_true rfl) [.tmp 4] rfl hat.st ?_).mono fun e w' ⟨v, H', he, hs, hT, hsub⟩ => ⟨by rw [he, hT], St.same hat hs hsub⟩
  refine c_seq fun K1 hK1 => ?_
  refine c_region ?_
  refine o_y (v := .bool (false)) rfl rfl (y_assign rfl) ?_
  refine o_nil ?_
  refine hK1 _ _ ?_
  refine c_seq fun K2 hK2 => ?_
  refine c_region ?_
  refine o_y (v := .pointer (some ⟨gl, 0, none⟩)) rfl rfl (y_move rfl) ?_
  refine o_y (v := .int .i64 (k)) rfl rfl (y_move rfl) ?_
  refine o_y (v := .tuple #[.pointer none, .int .i64 (7)]) rfl rfl (y_call (vs := [.pointer (some ⟨gl, 0, none⟩), .int .i64 (k)]) b25 rfl (fun w hw => f25_findNo gl gm en r es cl (mp) (k) w hM hl (hw.sat ((List.Sublist.slnil.cons_cons _).cons_cons _)))) ?_
  refine o_y (v := .tuple #[.pointer none, .int .i64 (7)]) rfl rfl (y_move rfl) ?_
  refine o_y (v := .pointer none) rfl rfl (y_extract (vs := #[.pointer none, .int .i64 (7)]) rfl rfl) ?_
  refine o_y (v := .int .i64 (7)) rfl rfl (y_extract (vs := #[.pointer none, .int .i64 (7)]) rfl rfl) ?_
  refine o_y (v := .pointer none) rfl rfl (y_assign rfl) ?_
  refine o_y (v := .int .i64 (7)) rfl rfl (y_assign rfl) ?_
  refine o_nil ?_
  refine hK2 _ _ ?_
  refine c_seq fun K3 hK3 => ?_
  refine c_region ?_
  refine o_y (v := .int .i64 (7)) rfl rfl (y_move rfl) ?_
  refine o_y (v := .bool (false)) rfl rfl (y_eql rfl rfl (by decide)) ?_
  refine o_y (v := .bool (false)) rfl rfl (y_assign rfl) ?_
  refine o_nil ?_
  refine hK3 _ _ ?_
  refine c_ret ?_
  refine fun w hw => ⟨[.bool (false)], ⟨rfl, trivial⟩, ?_⟩
  exact ⟨rfl, ((List.Sublist.slnil.cons_cons _).cons_cons _)⟩
  first | done | rfl

set_option maxRecDepth 100000 in
set_option maxHeartbeats 4000000 in
theorem f14_HasN (k : Int) (w : World)  :
    Calls Try.prog 14 [.pointer none, .int .i64 (k)].toArray w fun e w' => e = .returned (.bool (false)) ∧ Below w.heap.size w w' := by
  refine (calls_of (P := Try.prog) (n := 15) (w0 := w) (S := fun _ => False) (H := []) (T := fun v _ => v = (.bool (false))) Try.func14 rfl Try.ntmps14 (Nat.le_of_ble_eq_true rfl) [.tmp 4] rfl (St.nil w _) ?_).mono fun e w' ⟨v, H', he, hs, hT⟩ => ⟨by rw [he, hT], hs.below⟩
  refine c_seq fun K1 hK1 => ?_
  refine c_region ?_
  refine o_y (v := .bool (false)) rfl rfl (y_assign rfl) ?_
  refine o_nil ?_
  refine hK1 _ _ ?_
  refine c_seq fun K2 hK2 => ?_
  refine c_region ?_
  refine o_y (v := .pointer none) rfl rfl (y_move rfl) ?_
  refine o_y (v := .int .i64 (k)) rfl rfl (y_move rfl) ?_
  refine o_y (v := .tuple #[.pointer none, .int .i64 (1)]) rfl rfl (y_call (vs := [.pointer none, .int .i64 (k)]) b25 rfl (fun w hw => f25_findN (k) w)) ?_
  refine o_y (v := .tuple #[.pointer none, .int .i64 (1)]) rfl rfl (y_move rfl) ?_
  refine o_y (v := .pointer none) rfl rfl (y_extract (vs := #[.pointer none, .int .i64 (1)]) rfl rfl) ?_
  refine o_y (v := .int .i64 (1)) rfl rfl (y_extract (vs := #[.pointer none, .int .i64 (1)]) rfl rfl) ?_
  refine o_y (v := .pointer none) rfl rfl (y_assign rfl) ?_
  refine o_y (v := .int .i64 (1)) rfl rfl (y_assign rfl) ?_
  refine o_nil ?_
  refine hK2 _ _ ?_
  refine c_seq fun K3 hK3 => ?_
  refine c_region ?_
  refine o_y (v := .int .i64 (1)) rfl rfl (y_move rfl) ?_
  refine o_y (v := .bool (false)) rfl rfl (y_eql rfl rfl (by decide)) ?_
  refine o_y (v := .bool (false)) rfl rfl (y_assign rfl) ?_
  refine o_nil ?_
  refine hK3 _ _ ?_
  refine c_ret ?_
  refine fun w hw => ⟨[.bool (false)], ⟨rfl, trivial⟩, ?_⟩
  exact rfl

set_option maxRecDepth 100000 in
set_option maxHeartbeats 4000000 in
theorem f14_HasZ (gl : Nat) (k : Int) (w : World)  (hat : At ([(gl, .cells (#[.int .i64 (0), .map none, .pointer none]) 49 (0, 0))]) w) :
    Calls Try.prog 14 [.pointer (some ⟨gl, 0, none⟩), .int .i64 (k)].toArray w fun e w' => e = .returned (.bool (false)) ∧ Below w.heap.size w w' := by
  refine (calls_of (P := Try.prog) (n := 15) (w0 := w) (S := ids ([(gl, .cells (#[.int .i64 (0), .map none, .pointer none]) 49 (0, 0))])) (H := [(gl, .cells (#[.int .i64 (0), .map none, .pointer none]) 49 (0, 0))]) (T := fun v H => v = (.bool (false)) ∧ ([(gl, .cells (#[.int .i64 (0), .map none, .pointer none]) 49 (0, 0))] : Hp).Sublist H) Try.func14 rfl Try.ntmps14 (Nat.le_of_ble_eq_true rfl) [.tmp 4] rfl hat.st ?_).mono fun e w' ⟨v, H', he, hs, hT, hsub⟩ => ⟨by rw [he, hT], St.same hat hs hsub⟩
  refine c_seq fun K1 hK1 => ?_
  refine c_region ?_
  refine o_y (v := .bool (false)) rfl rfl (y_assign rfl) ?_
  refine o_nil ?_
  refine hK1 _ _ ?_
  refine c_seq fun K2 hK2 => ?_
  refine c_region ?_
  refine o_y (v := .pointer (some ⟨gl, 0, none⟩)) rfl rfl (y_move rfl) ?_
  refine o_y (v := .int .i64 (k)) rfl rfl (y_move rfl) ?_
  refine o_y (v := .tuple #[.pointer none, .int .i64 (1)]) rfl rfl (y_call (vs := [.pointer (some ⟨gl, 0, none⟩), .int .i64 (k)]) b25 rfl (fun w hw => f25_findZ gl (k) w (hw.sat (List.Sublist.slnil.cons_cons _)))) ?_
  refine o_y (v := .tuple #[.pointer none, .int .i64 (1)]) rfl rfl (y_move rfl) ?_
  refine o_y (v := .pointer none) rfl rfl (y_extract (vs := #[.pointer none, .int .i64 (1)]) rfl rfl) ?_
  refine o_y (v := .int .i64 (1)) rfl rfl (y_extract (vs := #[.pointer none, .int .i64 (1)]) rfl rfl) ?_
  refine o_y (v := .pointer none) rfl rfl (y_assign rfl) ?_
  refine o_y (v := .int .i64 (1)) rfl rfl (y_assign rfl) ?_
  refine o_nil ?_
  refine hK2 _ _ ?_
  refine c_seq fun K3 hK3 => ?_
  refine c_region ?_
  refine o_y (v := .int .i64 (1)) rfl rfl (y_move rfl) ?_
  refine o_y (v := .bool (false)) rfl rfl (y_eql rfl rfl (by decide)) ?_
  refine o_y (v := .bool (false)) rfl rfl (y_assign rfl) ?_
  refine o_nil ?_
  refine hK3 _ _ ?_
  refine c_ret ?_
  refine fun w hw => ⟨[.bool (false)], ⟨rfl, trivial⟩, ?_⟩
  exact ⟨rfl, (List.Sublist.slnil.cons_cons _)⟩
  first | done | rfl

set_option maxRecDepth 100000 in
set_option maxHeartbeats 4000000 in
theorem f15_DropNo (gl gm en : Nat) (r : Int) (es : Array MapEntry) (cl : Nat) (mp : List (Int × Nat)) (k : Int) (w : World) (hM : MapC mp es) (hl : lookM mp k = none) (hat : At ([(gl, .cells (#[.int .i64 (r), .map (some gm), .pointer (some ⟨en, 0, none⟩)]) 49 (0, 0)), (gm, .map (es) (cl))]) w) :
    Calls Try.prog 15 [.pointer (some ⟨gl, 0, none⟩), .int .i64 (k)].toArray w fun e w' => e = .returned (.int .i64 (7)) ∧ Below w.heap.size w w' := by
  refine (calls_of (P := Try.prog) (n := 19) (w0 := w) (S := ids ([(gl, .cells (#[.int .i64 (r), .map (some gm), .pointer (some ⟨en, 0, none⟩)]) 49 (0, 0)), (gm, .map (es) (cl))])) (H := [(gl, .cells (#[.int .i64 (r), .map (some gm), .pointer (some ⟨en, 0, none⟩)]) 49 (0, 0)), (gm, .map (es) (cl))]) (T := fun v H => v = (.int .i64 (7)) ∧ ([(gl, .cells (#[.int .i64 (r), .map (some gm), .pointer (some ⟨en, 0, none⟩)]) 49 (0, 0)), (gm, .map (es) (cl))] : Hp).Sublist H) Try.func15 rfl Try.ntmps15 (Nat.le_of_ble_eq_true rfl) [.tmp 4] rfl hat.st ?_).mono fun e w' ⟨v, H', he, hs, hT, hsub⟩ => ⟨by rw [he, hT], St.same hat hs hsub⟩
  refine c_seq fun K1 hK1 => ?_
  refine c_region ?_
  refine o_y (v := .int .i64 (0)) rfl rfl (y_assign rfl) ?_
  refine o_nil ?_
  refine hK1 _ _ ?_
  refine c_seq fun K2 hK2 => ?_
  refine c_region ?_
  refine o_y (v := .pointer (some ⟨gl, 0, none⟩)) rfl rfl (y_move rfl) ?_
  refine o_y (v := .int .i64 (k)) rfl rfl (y_move rfl) ?_
  refine o_y (v := .tuple #[.pointer none, .int .i64 (7)]) rfl rfl (y_call (vs := [.pointer (some ⟨gl, 0, none⟩), .int .i64 (k)]) b25 rfl (fun w hw => f25_findNo gl gm en r es cl (mp) (k) w hM hl (hw.sat ((List.Sublist.slnil.cons_cons _).cons_cons _)))) ?_
  refine o_y (v := .tuple #[.pointer none, .int .i64 (7)]) rfl rfl (y_move rfl) ?_
  refine o_y (v := .pointer none) rfl rfl (y_extract (vs := #[.pointer none, .int .i64 (7)]) rfl rfl) ?_
  refine o_y (v := .int .i64 (7)) rfl rfl (y_extract (vs := #[.pointer none, .int .i64 (7)]) rfl rfl) ?_
  refine o_y (v := .pointer none) rfl rfl (y_assign rfl) ?_
  refine o_y (v := .int .i64 (7)) rfl rfl (y_assign rfl) ?_
  refine o_nil ?_
  refine hK2 _ _ ?_
  refine c_seq fun K3 hK3 => ?_
  refine c_seq fun K4 hK4 => ?_
  refine c_region ?_
  refine o_y (v := .int .i64 (7)) rfl rfl (y_move rfl) ?_
  refine o_y (v := .bool (false)) rfl rfl (y_eql rfl rfl (by decide)) ?_
  refine o_nil ?_
  refine hK4 _ _ ?_
  refine c_cond (t := false) rfl (fun h => by cases h) (fun _ => ?_)
  refine c_skip ?_
  refine hK3 _ _ ?_
  refine c_seq fun K5 hK5 => ?_
  refine c_region ?_
  refine o_y (v := .int .i64 (7)) rfl rfl (y_move rfl) ?_
  refine o_y (v := .int .i64 (7)) rfl rfl (y_assign rfl) ?_
  refine o_nil ?_
  refine hK5 _ _ ?_
  refine c_ret ?_
  refine fun w hw => ⟨[.int .i64 (7)], ⟨rfl, trivial⟩, ?_⟩
  exact ⟨rfl, ((List.Sublist.slnil.cons_cons _).cons_cons _)⟩
  first | done | rfl

set_option maxRecDepth 100000 in
set_option maxHeartbeats 4000000 in
theorem f15_DropN (k : Int) (w : World)  :
    Calls Try.prog 15 [.pointer none, .int .i64 (k)].toArray w fun e w' => e = .returned (.int .i64 (1)) ∧ Below w.heap.size w w' := by
  refine (calls_of (P := Try.prog) (n := 19) (w0 := w) (S := fun _ => False) (H := []) (T := fun v _ => v = (.int .i64 (1))) Try.func15 rfl Try.ntmps15 (Nat.le_of_ble_eq_true rfl) [.tmp 4] rfl (St.nil w _) ?_).mono fun e w' ⟨v, H', he, hs, hT⟩ => ⟨by rw [he, hT], hs.below⟩
  refine c_seq fun K1 hK1 => ?_
  refine c_region ?_
  refine o_y (v := .int .i64 (0)) rfl rfl (y_assign rfl) ?_
  refine o_nil ?_
  refine hK1 _ _ ?_
  refine c_seq fun K2 hK2 => ?_
  refine c_region ?_
  refine o_y (v := .pointer none) rfl rfl (y_move rfl) ?_
  refine o_y (v := .int .i64 (k)) rfl rfl (y_move rfl) ?_
  refine o_y (v := .tuple #[.pointer none, .int .i64 (1)]) rfl rfl (y_call (vs := [.pointer none, .int .i64 (k)]) b25 rfl (fun w hw => f25_findN (k) w)) ?_
  refine o_y (v := .tuple #[.pointer none, .int .i64 (1)]) rfl rfl (y_move rfl) ?_
  refine o_y (v := .pointer none) rfl rfl (y_extract (vs := #[.pointer none, .int .i64 (1)]) rfl rfl) ?_
  refine o_y (v := .int .i64 (1)) rfl rfl (y_extract (vs := #[.pointer none, .int .i64 (1)]) rfl rfl) ?_
  refine o_y (v := .pointer none) rfl rfl (y_assign rfl) ?_
  refine o_y (v := .int .i64 (1)) rfl rfl (y_assign rfl) ?_
  refine o_nil ?_
  refine hK2 _ _ ?_
  refine c_seq fun K3 hK3 => ?_
  refine c_seq fun K4 hK4 => ?_
  refine c_region ?_
  refine o_y (v := .int .i64 (1)) rfl rfl (y_move rfl) ?_
  refine o_y (v := .bool (false)) rfl rfl (y_eql rfl rfl (by decide)) ?_
  refine o_nil ?_
  refine hK4 _ _ ?_
  refine c_cond (t := false) rfl (fun h => by cases h) (fun _ => ?_)
  refine c_skip ?_
  refine hK3 _ _ ?_
  refine c_seq fun K5 hK5 => ?_
  refine c_region ?_
  refine o_y (v := .int .i64 (1)) rfl rfl (y_move rfl) ?_
  refine o_y (v := .int .i64 (1)) rfl rfl (y_assign rfl) ?_
  refine o_nil ?_
  refine hK5 _ _ ?_
  refine c_ret ?_
  refine fun w hw => ⟨[.int .i64 (1)], ⟨rfl, trivial⟩, ?_⟩
  exact rfl

set_option maxRecDepth 100000 in
set_option maxHeartbeats 4000000 in
theorem f15_DropZ (gl : Nat) (k : Int) (w : World)  (hat : At ([(gl, .cells (#[.int .i64 (0), .map none, .pointer none]) 49 (0, 0))]) w) :
    Calls Try.prog 15 [.pointer (some ⟨gl, 0, none⟩), .int .i64 (k)].toArray w fun e w' => e = .returned (.int .i64 (1)) ∧ Below w.heap.size w w' := by
  refine (calls_of (P := Try.prog) (n := 19) (w0 := w) (S := ids ([(gl, .cells (#[.int .i64 (0), .map none, .pointer none]) 49 (0, 0))])) (H := [(gl, .cells (#[.int .i64 (0), .map none, .pointer none]) 49 (0, 0))]) (T := fun v H => v = (.int .i64 (1)) ∧ ([(gl, .cells (#[.int .i64 (0), .map none, .pointer none]) 49 (0, 0))] : Hp).Sublist H) Try.func15 rfl Try.ntmps15 (Nat.le_of_ble_eq_true rfl) [.tmp 4] rfl hat.st ?_).mono fun e w' ⟨v, H', he, hs, hT, hsub⟩ => ⟨by rw [he, hT], St.same hat hs hsub⟩
  refine c_seq fun K1 hK1 => ?_
  refine c_region ?_
  refine o_y (v := .int .i64 (0)) rfl rfl (y_assign rfl) ?_
  refine o_nil ?_
  refine hK1 _ _ ?_
  refine c_seq fun K2 hK2 => ?_
  refine c_region ?_
  refine o_y (v := .pointer (some ⟨gl, 0, none⟩)) rfl rfl (y_move rfl) ?_
  refine o_y (v := .int .i64 (k)) rfl rfl (y_move rfl) ?_
  refine o_y (v := .tuple #[.pointer none, .int .i64 (1)]) rfl rfl (y_call (vs := [.pointer (some ⟨gl, 0, none⟩), .int .i64 (k)]) b25 rfl (fun w hw => f25_findZ gl (k) w (hw.sat (List.Sublist.slnil.cons_cons _)))) ?_
  refine o_y (v := .tuple #[.pointer none, .int .i64 (1)]) rfl rfl (y_move rfl) ?_
  refine o_y (v := .pointer none) rfl rfl (y_extract (vs := #[.pointer none, .int .i64 (1)]) rfl rfl) ?_
  refine o_y (v := .int .i64 (1)) rfl rfl (y_extract (vs := #[.pointer none, .int .i64 (1)]) rfl rfl) ?_
  refine o_y (v := .pointer none) rfl rfl (y_assign rfl) ?_
  refine o_y (v := .int .i64 (1)) rfl rfl (y_assign rfl) ?_
  refine o_nil ?_
  refine hK2 _ _ ?_
  refine c_seq fun K3 hK3 => ?_
  refine c_seq fun K4 hK4 => ?_
  refine c_region ?_
  refine o_y (v := .int .i64 (1)) rfl rfl (y_move rfl) ?_
  refine o_y (v := .bool (false)) rfl rfl (y_eql rfl rfl (by decide)) ?_
  refine o_nil ?_
  refine hK4 _ _ ?_
  refine c_cond (t := false) rfl (fun h => by cases h) (fun _ => ?_)
  refine c_skip ?_
  refine hK3 _ _ ?_
  refine c_seq fun K5 hK5 => ?_
  refine c_region ?_
  refine o_y (v := .int .i64 (1)) rfl rfl (y_move rfl) ?_
  refine o_y (v := .int .i64 (1)) rfl rfl (y_assign rfl) ?_
  refine o_nil ?_
  refine hK5 _ _ ?_
  refine c_ret ?_
  refine fun w hw => ⟨[.int .i64 (1)], ⟨rfl, trivial⟩, ?_⟩
  exact ⟨rfl, (List.Sublist.slnil.cons_cons _)⟩
  first | done | rfl

set_option maxRecDepth 100000 in
set_option maxHeartbeats 4000000 in
theorem f16_PinnedNo (gl gm en : Nat) (r : Int) (es : Array MapEntry) (cl : Nat) (mp : List (Int × Nat)) (k : Int) (w : World) (hM : MapC mp es) (hl : lookM mp k = none) (hat : At ([(gl, .cells (#[.int .i64 (r), .map (some gm), .pointer (some ⟨en, 0, none⟩)]) 49 (0, 0)), (gm, .map (es) (cl))]) w) :
    Calls Try.prog 16 [.pointer (some ⟨gl, 0, none⟩), .int .i64 (k)].toArray w fun e w' => e = .returned (.bool (false)) ∧ Below w.heap.size w w' := by
  refine (calls_of (P := Try.prog) (n := 21) (w0 := w) (S := ids ([(gl, .cells (#[.int .i64 (r), .map (some gm), .pointer (some ⟨en, 0, none⟩)]) 49 (0, 0)), (gm, .map (es) (cl))])) (H := [(gl, .cells (#[.int .i64 (r), .map (some gm), .pointer (some ⟨en, 0, none⟩)]) 49 (0, 0)), (gm, .map (es) (cl))]) (T := fun v H => v = (.bool (false)) ∧ ([(gl, .cells (#[.int .i64 (r), .map (some gm), .pointer (some ⟨en, 0, none⟩)]) 49 (0, 0)), (gm, .map (es) (cl))] : Hp).Sublist H) Try.func16 rfl Try.ntmps16 (Nat.le_of_ble_eq_true rfl) [.tmp 4] rfl hat.st ?_).mono fun e w' ⟨v, H', he, hs, hT, hsub⟩ => ⟨by rw [he, hT], St.same hat hs hsub⟩
  refine c_seq fun K1 hK1 => ?_
  refine c_region ?_
  refine o_y (v := .bool (false)) rfl rfl (y_assign rfl) ?_
  refine o_nil ?_
  refine hK1 _ _ ?_
  refine c_seq fun K2 hK2 => ?_
  refine c_region ?_
  refine o_y (v := .pointer (some ⟨gl, 0, none⟩)) rfl rfl (y_move rfl) ?_
  refine o_y (v := .int .i64 (k)) rfl rfl (y_move rfl) ?_
  refine o_y (v := .tuple #[.pointer none, .int .i64 (7)]) rfl rfl (y_call (vs := [.pointer (some ⟨gl, 0, none⟩), .int .i64 (k)]) b25 rfl (fun w hw => f25_findNo gl gm en r es cl (mp) (k) w hM hl (hw.sat ((List.Sublist.slnil.cons_cons _).cons_cons _)))) ?_
  refine o_y (v := .tuple #[.pointer none, .int .i64 (7)]) rfl rfl (y_move rfl) ?_
  refine o_y (v := .pointer none) rfl rfl (y_extract (vs := #[.pointer none, .int .i64 (7)]) rfl rfl) ?_
  refine o_y (v := .int .i64 (7)) rfl rfl (y_extract (vs := #[.pointer none, .int .i64 (7)]) rfl rfl) ?_
  refine o_y (v := .pointer none) rfl rfl (y_assign rfl) ?_
  refine o_y (v := .int .i64 (7)) rfl rfl (y_assign rfl) ?_
  refine o_nil ?_
  refine hK2 _ _ ?_
  refine c_seq fun K3 hK3 => ?_
  refine c_region ?_
  refine o_y (v := .int .i64 (7)) rfl rfl (y_move rfl) ?_
  refine o_y (v := .bool (false)) rfl rfl (y_eql rfl rfl (by decide)) ?_
  refine o_y (v := .bool (false)) rfl rfl (y_move rfl) ?_
  refine o_guard (j := 2) (d := 15) (b := false) rfl rfl rfl (fun h => by cases h) rfl (fun _ => ?_)
  refine o_guard (j := 2) (d := 15) (b := false) rfl rfl rfl (fun h => by cases h) rfl (fun _ => ?_)
  refine o_guard (j := 2) (d := 15) (b := false) rfl rfl rfl (fun h => by cases h) rfl (fun _ => ?_)
  refine o_guard (j := 2) (d := 15) (b := false) rfl rfl rfl (fun h => by cases h) rfl (fun _ => ?_)
  refine o_y (v := .bool (false)) rfl rfl (y_pick (b := false) rfl rfl) ?_
  refine o_y (v := .bool (false)) rfl rfl (y_assign rfl) ?_
  refine o_nil ?_
  refine hK3 _ _ ?_
  refine c_ret ?_
  refine fun w hw => ⟨[.bool (false)], ⟨rfl, trivial⟩, ?_⟩
  exact ⟨rfl, ((List.Sublist.slnil.cons_cons _).cons_cons _)⟩
  first | done | rfl

set_option maxRecDepth 100000 in
set_option maxHeartbeats 4000000 in
theorem f16_PinnedN (k : Int) (w : World)  :
    Calls Try.prog 16 [.pointer none, .int .i64 (k)].toArray w fun e w' => e = .returned (.bool (false)) ∧ Below w.heap.size w w' := by
  refine (calls_of (P := Try.prog) (n := 21) (w0 := w) (S := fun _ => False) (H := []) (T := fun v _ => v = (.bool (false))) Try.func16 rfl Try.ntmps16 (Nat.le_of_ble_eq_true rfl) [.tmp 4] rfl (St.nil w _) ?_).mono fun e w' ⟨v, H', he, hs, hT⟩ => ⟨by rw [he, hT], hs.below⟩
  refine c_seq fun K1 hK1 => ?_
  refine c_region ?_
  refine o_y (v := .bool (false)) rfl rfl (y_assign rfl) ?_
  refine o_nil ?_
  refine hK1 _ _ ?_
  refine c_seq fun K2 hK2 => ?_
  refine c_region ?_
  refine o_y (v := .pointer none) rfl rfl (y_move rfl) ?_
  refine o_y (v := .int .i64 (k)) rfl rfl (y_move rfl) ?_
  refine o_y (v := .tuple #[.pointer none, .int .i64 (1)]) rfl rfl (y_call (vs := [.pointer none, .int .i64 (k)]) b25 rfl (fun w hw => f25_findN (k) w)) ?_
  refine o_y (v := .tuple #[.pointer none, .int .i64 (1)]) rfl rfl (y_move rfl) ?_
  refine o_y (v := .pointer none) rfl rfl (y_extract (vs := #[.pointer none, .int .i64 (1)]) rfl rfl) ?_
  refine o_y (v := .int .i64 (1)) rfl rfl (y_extract (vs := #[.pointer none, .int .i64 (1)]) rfl rfl) ?_
  refine o_y (v := .pointer none) rfl rfl (y_assign rfl) ?_
  refine o_y (v := .int .i64 (1)) rfl rfl (y_assign rfl) ?_
  refine o_nil ?_
  refine hK2 _ _ ?_
  refine c_seq fun K3 hK3 => ?_
  refine c_region ?_
  refine o_y (v := .int .i64 (1)) rfl rfl (y_move rfl) ?_
  refine o_y (v := .bool (false)) rfl rfl (y_eql rfl rfl (by decide)) ?_
  refine o_y (v := .bool (false)) rfl rfl (y_move rfl) ?_
  refine o_guard (j := 2) (d := 15) (b := false) rfl rfl rfl (fun h => by cases h) rfl (fun _ => ?_)
  refine o_guard (j := 2) (d := 15) (b := false) rfl rfl rfl (fun h => by cases h) rfl (fun _ => ?_)
  refine o_guard (j := 2) (d := 15) (b := false) rfl rfl rfl (fun h => by cases h) rfl (fun _ => ?_)
  refine o_guard (j := 2) (d := 15) (b := false) rfl rfl rfl (fun h => by cases h) rfl (fun _ => ?_)
  refine o_y (v := .bool (false)) rfl rfl (y_pick (b := false) rfl rfl) ?_
  refine o_y (v := .bool (false)) rfl rfl (y_assign rfl) ?_
  refine o_nil ?_
  refine hK3 _ _ ?_
  refine c_ret ?_
  refine fun w hw => ⟨[.bool (false)], ⟨rfl, trivial⟩, ?_⟩
  exact rfl

set_option maxRecDepth 100000 in
set_option maxHeartbeats 4000000 in
theorem f16_PinnedZ (gl : Nat) (k : Int) (w : World)  (hat : At ([(gl, .cells (#[.int .i64 (0), .map none, .pointer none]) 49 (0, 0))]) w) :
    Calls Try.prog 16 [.pointer (some ⟨gl, 0, none⟩), .int .i64 (k)].toArray w fun e w' => e = .returned (.bool (false)) ∧ Below w.heap.size w w' := by
  refine (calls_of (P := Try.prog) (n := 21) (w0 := w) (S := ids ([(gl, .cells (#[.int .i64 (0), .map none, .pointer none]) 49 (0, 0))])) (H := [(gl, .cells (#[.int .i64 (0), .map none, .pointer none]) 49 (0, 0))]) (T := fun v H => v = (.bool (false)) ∧ ([(gl, .cells (#[.int .i64 (0), .map none, .pointer none]) 49 (0, 0))] : Hp).Sublist H) Try.func16 rfl Try.ntmps16 (Nat.le_of_ble_eq_true rfl) [.tmp 4] rfl hat.st ?_).mono fun e w' ⟨v, H', he, hs, hT, hsub⟩ => ⟨by rw [he, hT], St.same hat hs hsub⟩
  refine c_seq fun K1 hK1 => ?_
  refine c_region ?_
  refine o_y (v := .bool (false)) rfl rfl (y_assign rfl) ?_
  refine o_nil ?_
  refine hK1 _ _ ?_
  refine c_seq fun K2 hK2 => ?_
  refine c_region ?_
  refine o_y (v := .pointer (some ⟨gl, 0, none⟩)) rfl rfl (y_move rfl) ?_
  refine o_y (v := .int .i64 (k)) rfl rfl (y_move rfl) ?_
  refine o_y (v := .tuple #[.pointer none, .int .i64 (1)]) rfl rfl (y_call (vs := [.pointer (some ⟨gl, 0, none⟩), .int .i64 (k)]) b25 rfl (fun w hw => f25_findZ gl (k) w (hw.sat (List.Sublist.slnil.cons_cons _)))) ?_
  refine o_y (v := .tuple #[.pointer none, .int .i64 (1)]) rfl rfl (y_move rfl) ?_
  refine o_y (v := .pointer none) rfl rfl (y_extract (vs := #[.pointer none, .int .i64 (1)]) rfl rfl) ?_
  refine o_y (v := .int .i64 (1)) rfl rfl (y_extract (vs := #[.pointer none, .int .i64 (1)]) rfl rfl) ?_
  refine o_y (v := .pointer none) rfl rfl (y_assign rfl) ?_
  refine o_y (v := .int .i64 (1)) rfl rfl (y_assign rfl) ?_
  refine o_nil ?_
  refine hK2 _ _ ?_
  refine c_seq fun K3 hK3 => ?_
  refine c_region ?_
  refine o_y (v := .int .i64 (1)) rfl rfl (y_move rfl) ?_
  refine o_y (v := .bool (false)) rfl rfl (y_eql rfl rfl (by decide)) ?_
  refine o_y (v := .bool (false)) rfl rfl (y_move rfl) ?_
  refine o_guard (j := 2) (d := 15) (b := false) rfl rfl rfl (fun h => by cases h) rfl (fun _ => ?_)
  refine o_guard (j := 2) (d := 15) (b := false) rfl rfl rfl (fun h => by cases h) rfl (fun _ => ?_)
  refine o_guard (j := 2) (d := 15) (b := false) rfl rfl rfl (fun h => by cases h) rfl (fun _ => ?_)
  refine o_guard (j := 2) (d := 15) (b := false) rfl rfl rfl (fun h => by cases h) rfl (fun _ => ?_)
  refine o_y (v := .bool (false)) rfl rfl (y_pick (b := false) rfl rfl) ?_
  refine o_y (v := .bool (false)) rfl rfl (y_assign rfl) ?_
  refine o_nil ?_
  refine hK3 _ _ ?_
  refine c_ret ?_
  refine fun w hw => ⟨[.bool (false)], ⟨rfl, trivial⟩, ?_⟩
  exact ⟨rfl, (List.Sublist.slnil.cons_cons _)⟩
  first | done | rfl

set_option maxRecDepth 100000 in
set_option maxHeartbeats 4000000 in
theorem f9_TouchN (k : Int) (w : World)  :
    Calls Try.prog 9 [.pointer none, .int .i64 (k)].toArray w fun e w' => e = .returned (.tuple #[.int .i64 (0), .bool (false), .int .i64 (1)]) ∧ Below w.heap.size w w' := by
  refine (calls_of (P := Try.prog) (n := 88) (w0 := w) (S := fun _ => False) (H := []) (T := fun v _ => v = (.tuple #[.int .i64 (0), .bool (false), .int .i64 (1)])) Try.func9 rfl Try.ntmps9 (Nat.le_of_ble_eq_true rfl) [.tmp 4, .tmp 5, .tmp 6] rfl (St.nil w _) ?_).mono fun e w' ⟨v, H', he, hs, hT⟩ => ⟨by rw [he, hT], hs.below⟩
  refine c_seq fun K1 hK1 => ?_
  refine c_region ?_
  refine o_y (v := .int .i64 (0)) rfl rfl (y_assign rfl) ?_
  refine o_y (v := .bool (false)) rfl rfl (y_assign rfl) ?_
  refine o_y (v := .int .i64 (0)) rfl rfl (y_assign rfl) ?_
  refine o_nil ?_
  refine hK1 _ _ ?_
  refine c_seq fun K2 hK2 => ?_
  refine c_seq fun K3 hK3 => ?_
  refine c_region ?_
  refine o_y (v := .pointer none) rfl rfl (y_move rfl) ?_
  refine o_y (v := .bool (true)) rfl rfl (y_call (vs := [.pointer none]) b21 rfl (fun w hw => f21_none w)) ?_
  refine o_nil ?_
  refine hK3 _ _ ?_
  refine c_cond (t := true) rfl (fun _ => ?_) (fun h => by cases h)
  refine c_seq fun K4 hK4 => ?_
  refine c_region ?_
  refine o_y (v := .int .i64 (0)) rfl rfl (y_assign rfl) ?_
  refine o_y (v := .bool (false)) rfl rfl (y_assign rfl) ?_
  refine o_y (v := .int .i64 (1)) rfl rfl (y_assign rfl) ?_
  refine o_nil ?_
  refine hK4 _ _ ?_
  refine c_ret ?_
  refine fun w hw => ⟨[.int .i64 (0), .bool (false), .int .i64 (1)], ⟨rfl, rfl, rfl, trivial⟩, ?_⟩
  exact rfl

set_option maxRecDepth 100000 in
set_option maxHeartbeats 4000000 in
theorem f9_TouchZ (gl : Nat) (k : Int) (w : World)  (hat : At ([(gl, .cells (#[.int .i64 (0), .map none, .pointer none]) 49 (0, 0))]) w) :
    Calls Try.prog 9 [.pointer (some ⟨gl, 0, none⟩), .int .i64 (k)].toArray w fun e w' => e = .returned (.tuple #[.int .i64 (0), .bool (false), .int .i64 (1)]) ∧ Below w.heap.size w w' := by
  refine (calls_of (P := Try.prog) (n := 88) (w0 := w) (S := ids ([(gl, .cells (#[.int .i64 (0), .map none, .pointer none]) 49 (0, 0))])) (H := [(gl, .cells (#[.int .i64 (0), .map none, .pointer none]) 49 (0, 0))]) (T := fun v H => v = (.tuple #[.int .i64 (0), .bool (false), .int .i64 (1)]) ∧ ([(gl, .cells (#[.int .i64 (0), .map none, .pointer none]) 49 (0, 0))] : Hp).Sublist H) Try.func9 rfl Try.ntmps9 (Nat.le_of_ble_eq_true rfl) [.tmp 4, .tmp 5, .tmp 6] rfl hat.st ?_).mono fun e w' ⟨v, H', he, hs, hT, hsub⟩ => ⟨by rw [he, hT], St.same hat hs hsub⟩
  refine c_seq fun K1 hK1 => ?_
  refine c_region ?_
  refine o_y (v := .int .i64 (0)) rfl rfl (y_assign rfl) ?_
  refine o_y (v := .bool (false)) rfl rfl (y_assign rfl) ?_
  refine o_y (v := .int .i64 (0)) rfl rfl (y_assign rfl) ?_
  refine o_nil ?_
  refine hK1 _ _ ?_
  refine c_seq fun K2 hK2 => ?_
  refine c_seq fun K3 hK3 => ?_
  refine c_region ?_
  refine o_y (v := .pointer (some ⟨gl, 0, none⟩)) rfl rfl (y_move rfl) ?_
  refine o_y (v := .bool (true)) rfl rfl (y_call (vs := [.pointer (some ⟨gl, 0, none⟩)]) b21 rfl (fun w hw => f21_zero gl w (hw.sat (List.Sublist.slnil.cons_cons _)))) ?_
  refine o_nil ?_
  refine hK3 _ _ ?_
  refine c_cond (t := true) rfl (fun _ => ?_) (fun h => by cases h)
  refine c_seq fun K4 hK4 => ?_
  refine c_region ?_
  refine o_y (v := .int .i64 (0)) rfl rfl (y_assign rfl) ?_
  refine o_y (v := .bool (false)) rfl rfl (y_assign rfl) ?_
  refine o_y (v := .int .i64 (1)) rfl rfl (y_assign rfl) ?_
  refine o_nil ?_
  refine hK4 _ _ ?_
  refine c_ret ?_
  refine fun w hw => ⟨[.int .i64 (0), .bool (false), .int .i64 (1)], ⟨rfl, rfl, rfl, trivial⟩, ?_⟩
  exact ⟨rfl, (List.Sublist.slnil.cons_cons _)⟩
  first | done | rfl

set_option maxRecDepth 100000 in
set_option maxHeartbeats 4000000 in
theorem f11_KeysN  (w : World)  :
    Calls Try.prog 11 [.pointer none].toArray w fun e w' => e = .returned (.slice none 0 0) ∧ Below w.heap.size w w' := by
  refine (calls_of (P := Try.prog) (n := 32) (w0 := w) (S := fun _ => False) (H := []) (T := fun v _ => v = (.slice none 0 0)) Try.func11 rfl Try.ntmps11 (Nat.le_of_ble_eq_true rfl) [.tmp 2] rfl (St.nil w _) ?_).mono fun e w' ⟨v, H', he, hs, hT⟩ => ⟨by rw [he, hT], hs.below⟩
  refine c_seq fun K1 hK1 => ?_
  refine c_region ?_
  refine o_y (v := .slice none 0 0) rfl rfl (y_assign rfl) ?_
  refine o_nil ?_
  refine hK1 _ _ ?_
  refine c_seq fun K2 hK2 => ?_
  refine c_seq fun K3 hK3 => ?_
  refine c_region ?_
  refine o_y (v := .pointer none) rfl rfl (y_move rfl) ?_
  refine o_y (v := .bool (true)) rfl rfl (y_call (vs := [.pointer none]) b21 rfl (fun w hw => f21_none w)) ?_
  refine o_nil ?_
  refine hK3 _ _ ?_
  refine c_cond (t := true) rfl (fun _ => ?_) (fun h => by cases h)
  refine c_seq fun K4 hK4 => ?_
  refine c_region ?_
  refine o_y (v := .slice none 0 0) rfl rfl (y_assign rfl) ?_
  refine o_nil ?_
  refine hK4 _ _ ?_
  refine c_ret ?_
  refine fun w hw => ⟨[.slice none 0 0], ⟨rfl, trivial⟩, ?_⟩
  exact rfl

set_option maxRecDepth 100000 in
set_option maxHeartbeats 4000000 in
theorem f11_KeysZ (gl : Nat) (w : World)  (hat : At ([(gl, .cells (#[.int .i64 (0), .map none, .pointer none]) 49 (0, 0))]) w) :
    Calls Try.prog 11 [.pointer (some ⟨gl, 0, none⟩)].toArray w fun e w' => e = .returned (.slice none 0 0) ∧ Below w.heap.size w w' := by
  refine (calls_of (P := Try.prog) (n := 32) (w0 := w) (S := ids ([(gl, .cells (#[.int .i64 (0), .map none, .pointer none]) 49 (0, 0))])) (H := [(gl, .cells (#[.int .i64 (0), .map none, .pointer none]) 49 (0, 0))]) (T := fun v H => v = (.slice none 0 0) ∧ ([(gl, .cells (#[.int .i64 (0), .map none, .pointer none]) 49 (0, 0))] : Hp).Sublist H) Try.func11 rfl Try.ntmps11 (Nat.le_of_ble_eq_true rfl) [.tmp 2] rfl hat.st ?_).mono fun e w' ⟨v, H', he, hs, hT, hsub⟩ => ⟨by rw [he, hT], St.same hat hs hsub⟩
  refine c_seq fun K1 hK1 => ?_
  refine c_region ?_
  refine o_y (v := .slice none 0 0) rfl rfl (y_assign rfl) ?_
  refine o_nil ?_
  refine hK1 _ _ ?_
  refine c_seq fun K2 hK2 => ?_
  refine c_seq fun K3 hK3 => ?_
  refine c_region ?_
  refine o_y (v := .pointer (some ⟨gl, 0, none⟩)) rfl rfl (y_move rfl) ?_
  refine o_y (v := .bool (true)) rfl rfl (y_call (vs := [.pointer (some ⟨gl, 0, none⟩)]) b21 rfl (fun w hw => f21_zero gl w (hw.sat (List.Sublist.slnil.cons_cons _)))) ?_
  refine o_nil ?_
  refine hK3 _ _ ?_
  refine c_cond (t := true) rfl (fun _ => ?_) (fun h => by cases h)
  refine c_seq fun K4 hK4 => ?_
  refine c_region ?_
  refine o_y (v := .slice none 0 0) rfl rfl (y_assign rfl) ?_
  refine o_nil ?_
  refine hK4 _ _ ?_
  refine c_ret ?_
  refine fun w hw => ⟨[.slice none 0 0], ⟨rfl, trivial⟩, ?_⟩
  exact ⟨rfl, (List.Sublist.slnil.cons_cons _)⟩
  first | done | rfl

set_option maxRecDepth 100000 in
set_option maxHeartbeats 4000000 in
theorem f20_Room (gl gm en : Nat) (r : Int) (w : World)  (hat : At ([(gl, .cells (#[.int .i64 (r), .map (some gm), .pointer (some ⟨en, 0, none⟩)]) 49 (0, 0))]) w) :
    Calls Try.prog 20 [.pointer (some ⟨gl, 0, none⟩)].toArray w fun e w' => e = .returned (.int .i64 (r)) ∧ Below w.heap.size w w' := by
  refine (calls_of (P := Try.prog) (n := 9) (w0 := w) (S := ids ([(gl, .cells (#[.int .i64 (r), .map (some gm), .pointer (some ⟨en, 0, none⟩)]) 49 (0, 0))])) (H := [(gl, .cells (#[.int .i64 (r), .map (some gm), .pointer (some ⟨en, 0, none⟩)]) 49 (0, 0))]) (T := fun v H => v = (.int .i64 (r)) ∧ ([(gl, .cells (#[.int .i64 (r), .map (some gm), .pointer (some ⟨en, 0, none⟩)]) 49 (0, 0))] : Hp).Sublist H) Try.func20 rfl Try.ntmps20 (Nat.le_of_ble_eq_true rfl) [.tmp 2] rfl hat.st ?_).mono fun e w' ⟨v, H', he, hs, hT, hsub⟩ => ⟨by rw [he, hT], St.same hat hs hsub⟩
  refine c_seq fun K1 hK1 => ?_
  refine c_region ?_
  refine o_y (v := .int .i64 (0)) rfl rfl (y_assign rfl) ?_
  refine o_nil ?_
  refine hK1 _ _ ?_
  refine c_seq fun K2 hK2 => ?_
  refine c_seq fun K3 hK3 => ?_
  refine c_region ?_
  refine o_y (v := .pointer (some ⟨gl, 0, none⟩)) rfl rfl (y_move rfl) ?_
  refine o_y (v := .bool (false)) rfl rfl (y_call (vs := [.pointer (some ⟨gl, 0, none⟩)]) b21 rfl (fun w hw => f21_some gl gm en r w (hw.sat (List.Sublist.slnil.cons_cons _)))) ?_
  refine o_nil ?_
  refine hK3 _ _ ?_
  refine c_cond (t := false) rfl (fun h => by cases h) (fun _ => ?_)
  refine c_skip ?_
  refine hK2 _ _ ?_
  refine c_seq fun K4 hK4 => ?_
  refine c_region ?_
  refine o_y (v := .pointer (some ⟨gl, 0, none⟩)) rfl rfl (y_move rfl) ?_
  refine o_y (v := .pointer (some ⟨gl, 0, none⟩)) rfl rfl (y_nilCheck rfl) ?_
  refine o_y (v := .pointer (some ⟨gl, 0, none⟩)) rfl rfl (y_fieldAddr (k := 0) rfl Try.underlying49 rfl rfl ⟨_, s3⟩ (by first | rfl | omega)) ?_
  refine o_y (v := .int .i64 (r)) rfl rfl (y_load rfl Try.underlying3 rfl (Rd.one (k := 0) rfl rfl)) ?_
  refine o_y (v := .int .i64 (r)) rfl rfl (y_assign rfl) ?_
  refine o_nil ?_
  refine hK4 _ _ ?_
  refine c_ret ?_
  refine fun w hw => ⟨[.int .i64 (r)], ⟨rfl, trivial⟩, ?_⟩
  exact ⟨rfl, (List.Sublist.slnil.cons_cons _)⟩
  first | done | rfl

set_option maxRecDepth 100000 in
set_option maxHeartbeats 4000000 in
theorem f20_RoomN  (w : World)  :
    Calls Try.prog 20 [.pointer none].toArray w fun e w' => e = .returned (.int .i64 (0)) ∧ Below w.heap.size w w' := by
  refine (calls_of (P := Try.prog) (n := 9) (w0 := w) (S := fun _ => False) (H := []) (T := fun v _ => v = (.int .i64 (0))) Try.func20 rfl Try.ntmps20 (Nat.le_of_ble_eq_true rfl) [.tmp 2] rfl (St.nil w _) ?_).mono fun e w' ⟨v, H', he, hs, hT⟩ => ⟨by rw [he, hT], hs.below⟩
  refine c_seq fun K1 hK1 => ?_
  refine c_region ?_
  refine o_y (v := .int .i64 (0)) rfl rfl (y_assign rfl) ?_
  refine o_nil ?_
  refine hK1 _ _ ?_
  refine c_seq fun K2 hK2 => ?_
  refine c_seq fun K3 hK3 => ?_
  refine c_region ?_
  refine o_y (v := .pointer none) rfl rfl (y_move rfl) ?_
  refine o_y (v := .bool (true)) rfl rfl (y_call (vs := [.pointer none]) b21 rfl (fun w hw => f21_none w)) ?_
  refine o_nil ?_
  refine hK3 _ _ ?_
  refine c_cond (t := true) rfl (fun _ => ?_) (fun h => by cases h)
  refine c_seq fun K4 hK4 => ?_
  refine c_region ?_
  refine o_y (v := .int .i64 (0)) rfl rfl (y_assign rfl) ?_
  refine o_nil ?_
  refine hK4 _ _ ?_
  refine c_ret ?_
  refine fun w hw => ⟨[.int .i64 (0)], ⟨rfl, trivial⟩, ?_⟩
  exact rfl

set_option maxRecDepth 100000 in
set_option maxHeartbeats 4000000 in
theorem f20_RoomZ (gl : Nat) (w : World)  (hat : At ([(gl, .cells (#[.int .i64 (0), .map none, .pointer none]) 49 (0, 0))]) w) :
    Calls Try.prog 20 [.pointer (some ⟨gl, 0, none⟩)].toArray w fun e w' => e = .returned (.int .i64 (0)) ∧ Below w.heap.size w w' := by
  refine (calls_of (P := Try.prog) (n := 9) (w0 := w) (S := ids ([(gl, .cells (#[.int .i64 (0), .map none, .pointer none]) 49 (0, 0))])) (H := [(gl, .cells (#[.int .i64 (0), .map none, .pointer none]) 49 (0, 0))]) (T := fun v H => v = (.int .i64 (0)) ∧ ([(gl, .cells (#[.int .i64 (0), .map none, .pointer none]) 49 (0, 0))] : Hp).Sublist H) Try.func20 rfl Try.ntmps20 (Nat.le_of_ble_eq_true rfl) [.tmp 2] rfl hat.st ?_).mono fun e w' ⟨v, H', he, hs, hT, hsub⟩ => ⟨by rw [he, hT], St.same hat hs hsub⟩
  refine c_seq fun K1 hK1 => ?_
  refine c_region ?_
  refine o_y (v := .int .i64 (0)) rfl rfl (y_assign rfl) ?_
  refine o_nil ?_
  refine hK1 _ _ ?_
  refine c_seq fun K2 hK2 => ?_
  refine c_seq fun K3 hK3 => ?_
  refine c_region ?_
  refine o_y (v := .pointer (some ⟨gl, 0, none⟩)) rfl rfl (y_move rfl) ?_
  refine o_y (v := .bool (true)) rfl rfl (y_call (vs := [.pointer (some ⟨gl, 0, none⟩)]) b21 rfl (fun w hw => f21_zero gl w (hw.sat (List.Sublist.slnil.cons_cons _)))) ?_
  refine o_nil ?_
  refine hK3 _ _ ?_
  refine c_cond (t := true) rfl (fun _ => ?_) (fun h => by cases h)
  refine c_seq fun K4 hK4 => ?_
  refine c_region ?_
  refine o_y (v := .int .i64 (0)) rfl rfl (y_assign rfl) ?_
  refine o_nil ?_
  refine hK4 _ _ ?_
  refine c_ret ?_
  refine fun w hw => ⟨[.int .i64 (0)], ⟨rfl, trivial⟩, ?_⟩
  exact ⟨rfl, (List.Sublist.slnil.cons_cons _)⟩
  first | done | rfl

set_option maxRecDepth 100000 in
set_option maxHeartbeats 4000000 in
theorem f8_New (n : Int) (w : World) (h1 : 1 ≤ n) (h64 : n ≤ 64) :
    Calls Try.prog 8 [.int .i64 (n)].toArray w fun e w' => ∃ v H', e = .returned v ∧ St w (fun _ => False) H' w' ∧ (fun v H => ∃ gl gm en, v = .tuple #[.pointer (some ⟨gl, 0, none⟩), .int .i64 0] ∧ H = [(gl, .cells #[.int .i64 n, .map (some gm), .pointer (some ⟨en, 0, none⟩)] 49 (0, 0)), (gm, .map #[] 0), (en, .cells #[.int .i64 0, .bool false, .pointer (some ⟨en, 0, none⟩), .pointer (some ⟨en, 0, none⟩)] 52 (0, 0))]) v H' := by
  refine (calls_of (P := Try.prog) (n := 26) (w0 := w) (S := fun _ => False) (H := []) (T := fun v H => ∃ H', H'.Sublist H ∧ (fun v H => ∃ gl gm en, v = .tuple #[.pointer (some ⟨gl, 0, none⟩), .int .i64 0] ∧ H = [(gl, .cells #[.int .i64 n, .map (some gm), .pointer (some ⟨en, 0, none⟩)] 49 (0, 0)), (gm, .map #[] 0), (en, .cells #[.int .i64 0, .bool false, .pointer (some ⟨en, 0, none⟩), .pointer (some ⟨en, 0, none⟩)] 52 (0, 0))]) v H') Try.func8 rfl Try.ntmps8 (Nat.le_of_ble_eq_true rfl) [.tmp 2, .tmp 3] rfl (St.nil w _) ?_).mono fun e w' ⟨v, H', he, hs, H2, hsub, hT⟩ => ⟨v, H2, he, hs.drop hsub, hT⟩
  refine c_seq fun K1 hK1 => ?_
  refine c_region ?_
  refine o_y (v := .pointer none) rfl rfl (y_assign rfl) ?_
  refine o_y (v := .int .i64 (0)) rfl rfl (y_assign rfl) ?_
  refine o_nil ?_
  refine hK1 _ _ ?_
  refine c_seq fun K2 hK2 => ?_
  refine c_seq fun K3 hK3 => ?_
  refine c_region ?_
  refine o_y (v := .int .i64 (n)) rfl rfl (y_move rfl) ?_
  refine o_y (v := .bool (false)) rfl rfl (y_bool (y_lss rfl rfl rfl) (decide_eq_false (by omega))) ?_
  refine o_y (v := .bool (false)) rfl rfl (y_move rfl) ?_
  refine o_guard (j := 2) (d := 7) (b := false) rfl rfl rfl (fun _ => ?_) rfl (fun h => by cases h)
  refine o_y (v := .int .i64 (n)) rfl rfl (y_move rfl) ?_
  refine o_guard (j := 2) (d := 7) (b := false) rfl rfl rfl (fun _ => ?_) rfl (fun h => by cases h)
  refine o_y (v := .bool (false)) rfl rfl (y_bool (y_gtr rfl rfl rfl) (decide_eq_false (by omega))) ?_
  refine o_y (v := .bool (false)) rfl rfl (y_pick (b := false) rfl rfl) ?_
  refine o_nil ?_
  refine hK3 _ _ ?_
  refine c_cond (t := false) rfl (fun h => by cases h) (fun _ => ?_)
  refine c_skip ?_
  refine hK2 _ _ ?_
  refine c_seq fun K4 hK4 => ?_
  refine c_region ?_
  refine o_y (v := .agg (#[.int .i64 (0), .bool (false), .pointer none, .pointer none])) rfl rfl (y_build rfl (by kernel_rfl)) ?_
  refine o_box (v := .agg (#[.int .i64 (0), .bool (false), .pointer none, .pointer none])) rfl rfl fun g1 => ?_
  refine o_y (v := .pointer (some ⟨g1, 0, none⟩)) rfl rfl (y_assign rfl) ?_
  refine o_nil ?_
  refine hK4 _ _ ?_
  refine c_seq fun K5 hK5 => ?_
  refine c_region ?_
  refine o_y (v := .pointer (some ⟨g1, 0, none⟩)) rfl rfl (y_move rfl) ?_
  refine o_y (v := .pointer (some ⟨g1, 0, none⟩)) rfl rfl (y_move rfl) ?_
  refine o_y (v := .pointer (some ⟨g1, 0, none⟩)) rfl rfl (y_move rfl) ?_
  refine o_y (v := .pointer (some ⟨g1, 0, none⟩)) rfl rfl (y_move rfl) ?_
  refine o_y (v := .pointer (some ⟨g1, 0, none⟩)) rfl rfl (y_nilCheck rfl) ?_
  refine o_y (v := .pointer (some ⟨g1, 2, none⟩)) rfl rfl (y_fieldAddr (k := 2) rfl Try.underlying52 rfl rfl ⟨_, s47⟩ (by first | rfl | omega)) ?_
  refine o_storeC (H' := [(g1, .cells (#[.int .i64 (0), .bool (false), .pointer (some ⟨g1, 0, none⟩), .pointer none]) 52 (0, 0))]) 0 rfl rfl rfl rfl rfl s47 (Nat.le_of_ble_eq_true rfl) rfl rfl ?_
  refine o_y (v := .pointer (some ⟨g1, 0, none⟩)) rfl rfl (y_nilCheck rfl) ?_
  refine o_y (v := .pointer (some ⟨g1, 3, none⟩)) rfl rfl (y_fieldAddr (k := 3) rfl Try.underlying52 rfl rfl ⟨_, s47⟩ (by first | rfl | omega)) ?_
  refine o_storeC (H' := [(g1, .cells (#[.int .i64 (0), .bool (false), .pointer (some ⟨g1, 0, none⟩), .pointer (some ⟨g1, 0, none⟩)]) 52 (0, 0))]) 0 rfl rfl rfl rfl rfl s47 (Nat.le_of_ble_eq_true rfl) rfl rfl ?_
  refine o_nil ?_
  refine hK5 _ _ ?_
  refine c_seq fun K6 hK6 => ?_
  refine c_region ?_
  refine o_y (v := .int .i64 (n)) rfl rfl (y_move rfl) ?_
  refine o_newM rfl fun g2 => ?_
  refine o_y (v := .pointer (some ⟨g1, 0, none⟩)) rfl rfl (y_move rfl) ?_
  refine o_y (v := .agg (#[.int .i64 (n), .map (some g2), .pointer (some ⟨g1, 0, none⟩)])) rfl rfl (y_build rfl (by kernel_rfl)) ?_
  refine o_box (v := .agg (#[.int .i64 (n), .map (some g2), .pointer (some ⟨g1, 0, none⟩)])) rfl rfl fun g3 => ?_
  refine o_y (v := .pointer (some ⟨g3, 0, none⟩)) rfl rfl (y_assign rfl) ?_
  refine o_y (v := .int .i64 (0)) rfl rfl (y_assign rfl) ?_
  refine o_nil ?_
  refine hK6 _ _ ?_
  refine c_ret ?_
  refine fun w hw => ⟨[.pointer (some ⟨g3, 0, none⟩), .int .i64 (0)], ⟨rfl, rfl, trivial⟩, ?_⟩
  exact ⟨_, (((List.Sublist.slnil.cons_cons _).cons_cons _).cons_cons _), _, _, _, rfl, rfl⟩
  first | done | rfl

set_option maxRecDepth 100000 in
set_option maxHeartbeats 4000000 in
theorem f8_NewBad (n : Int) (w : World) (hn : n < 1 ∨ 64 < n) :
    Calls Try.prog 8 [.int .i64 (n)].toArray w fun e w' => e = .returned (.tuple #[.pointer none, .int .i64 (2)]) ∧ Below w.heap.size w w' := by
  refine (calls_of (P := Try.prog) (n := 26) (w0 := w) (S := fun _ => False) (H := []) (T := fun v _ => v = (.tuple #[.pointer none, .int .i64 (2)])) Try.func8 rfl Try.ntmps8 (Nat.le_of_ble_eq_true rfl) [.tmp 2, .tmp 3] rfl (St.nil w _) ?_).mono fun e w' ⟨v, H', he, hs, hT⟩ => ⟨by rw [he, hT], hs.below⟩
  refine c_seq fun K1 hK1 => ?_
  refine c_region ?_
  refine o_y (v := .pointer none) rfl rfl (y_assign rfl) ?_
  refine o_y (v := .int .i64 (0)) rfl rfl (y_assign rfl) ?_
  refine o_nil ?_
  refine hK1 _ _ ?_
  refine c_seq fun K2 hK2 => ?_
  refine c_seq fun K3 hK3 => ?_
  refine c_region ?_
  refine o_y (v := .int .i64 (n)) rfl rfl (y_move rfl) ?_
  refine o_y (v := .bool (decide (n < 1))) rfl rfl (y_lss rfl rfl rfl) ?_
  refine o_y (v := .bool (decide (n < 1))) rfl rfl (y_move rfl) ?_
  cases hc1 : (decide (n < 1) : Bool)
  ·
    have hc1' := of_decide_eq_false hc1
    -- way F
    refine o_guard (j := 2) (d := 7) (b := false) rfl rfl rfl (fun _ => ?_) rfl (fun h => by cases h)
    refine o_y (v := .int .i64 (n)) rfl rfl (y_move rfl) ?_
    refine o_guard (j := 2) (d := 7) (b := false) rfl rfl rfl (fun _ => ?_) rfl (fun h => by cases h)
    refine o_y (v := .bool (decide (64 < n))) rfl rfl (y_gtr rfl rfl rfl) ?_
    refine o_y (v := .bool (decide (64 < n))) rfl rfl (y_pick (b := false) rfl rfl) ?_
    refine o_nil ?_
    refine hK3 _ _ ?_
    refine c_cond (t := decide (64 < n)) rfl (fun hc2 => ?_) (fun hc2 => ?_)
    ·
      replace hc2 := of_decide_eq_true hc2
      -- way FT
      refine c_seq fun K4 hK4 => ?_
      refine c_region ?_
      refine o_y (v := .pointer none) rfl rfl (y_assign rfl) ?_
      refine o_y (v := .int .i64 (2)) rfl rfl (y_assign rfl) ?_
      refine o_nil ?_
      refine hK4 _ _ ?_
      refine c_ret ?_
      refine fun w hw => ⟨[.pointer none, .int .i64 (2)], ⟨rfl, rfl, trivial⟩, ?_⟩
      exact rfl
    ·
      replace hc2 := of_decide_eq_false hc2
      -- way FF
      exfalso; omega
  ·
    have hc1' := of_decide_eq_true hc1
    -- way T
    refine o_guard (j := 2) (d := 7) (b := true) rfl rfl rfl (fun h => by cases h) rfl (fun _ => ?_)
    refine o_guard (j := 2) (d := 7) (b := true) rfl rfl rfl (fun h => by cases h) rfl (fun _ => ?_)
    refine o_y (v := .bool (true)) rfl rfl (y_pick (b := true) rfl rfl) ?_
    refine o_nil ?_
    refine hK3 _ _ ?_
    refine c_cond (t := true) rfl (fun _ => ?_) (fun h => by cases h)
    refine c_seq fun K5 hK5 => ?_
    refine c_region ?_
    refine o_y (v := .pointer none) rfl rfl (y_assign rfl) ?_
    refine o_y (v := .int .i64 (2)) rfl rfl (y_assign rfl) ?_
    refine o_nil ?_
    refine hK5 _ _ ?_
    refine c_ret ?_
    refine fun w hw => ⟨[.pointer none, .int .i64 (2)], ⟨rfl, rfl, trivial⟩, ?_⟩
    exact rfl

end Go.Proofs.Ytpbpenlceigddaa.Lru
