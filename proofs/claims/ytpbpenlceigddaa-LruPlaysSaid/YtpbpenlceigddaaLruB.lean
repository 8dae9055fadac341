/- Proved: what an act on both comes to; the conditions stand in the statements. -/
import Derived.Test.YtpbpenlceigddaaLruH
import Derived.Test.YtpbpenlceigddaaLruRL
set_option linter.unusedVariables false
set_option linter.unusedSimpArgs false
set_option linter.unnecessarySimpa false
namespace Go.Proofs.Ytpbpenlceigddaa.Lru
open Go Go.RowKit Go.Proofs.Ytpbpenlceigddaa.Eng

set_option maxRecDepth 100000 in
set_option maxHeartbeats 4000000 in
theorem f26_key (gr : Nat) (r : Int) (ks : Ks) (HR : Hp) (x : Act) (w : World) (hR : RefK gr r ks HR) (h64 : ks.length ≤ 64) (hat : At ((HR)) w) :
    Calls Try.prog 26 [.pointer (some ⟨gr, 0, none⟩), .agg (Act.arr (x))].toArray w fun e w' => ∃ v H', e = .returned v ∧ St w (fun _ => False) H' w' ∧ (fun v H => (∃ q, v = .int .i64 q) ∧ H = []) v H' := by
  have hkl := keyK_len ks
  refine (calls_of (P := Try.prog) (n := 29) (w0 := w) (S := ids ((HR))) (H := (HR)) (T := fun v H => ∃ H1, (fun v H => (∃ q, v = .int .i64 q) ∧ H = []) v H1 ∧ (((HR) : Hp) ++ H1).Sublist H) Try.func26 rfl Try.ntmps26 (Nat.le_of_ble_eq_true rfl) [.tmp 4] rfl hat.st ?_).mono fun e w' ⟨v, H', he, hs, H1, hT, hsub⟩ => ⟨v, H1, he, St.pure hat hs hsub, hT⟩
  refine c_seq fun K1 hK1 => ?_
  refine c_region ?_
  refine o_box (v := .agg (Act.arr (x))) rfl rfl fun g1 => ?_
  refine o_perm (H' := [(g1, .cells (Act.arr (x)) 35 (0, 0))] ++ (HR)) (List.Perm.refl _) ?_
  refine o_y (v := .int .i64 (0)) rfl rfl (y_assign rfl) ?_
  refine o_nil ?_
  refine hK1 _ _ ?_
  refine c_seq fun K2 hK2 => ?_
  refine c_region ?_
  refine o_y (v := .pointer (some ⟨gr, 0, none⟩)) rfl rfl (y_move rfl) ?_
  refine o_callV (fun Hy => [(g1, .cells (Act.arr (x)) 35 (0, 0))] ++ (HR ++ Hy)) (fun Hy => by have h := List.perm_append_comm (l₁ := ([(g1, .cells (Act.arr (x)) 35 (0, 0))] ++ (HR) : Hp)) (l₂ := Hy); first | exact h | simpa [Value.cells] using h) (vs := [.pointer (some ⟨gr, 0, none⟩)]) b19 rfl rfl (fun w hw => RL_keys hR (by omega) w (hw.sat ((List.Sublist.refl _).cons _))) ?_
  rintro _ Hp2 ⟨ap2, gp2, capp2, rfl, hvp2⟩
  have hzp2 := hvp2.le
  have hyp2 := hvp2.mx
  simp only [maxLen] at hyp2
  refine o_y (v := .slice (ap2) ((keyK (ks)).length) (capp2)) rfl rfl (y_assign rfl) ?_
  refine o_nil ?_
  refine hK2 _ _ ?_
  refine c_seq fun K3 hK3 => ?_
  refine c_seq fun K4 hK4 => ?_
  refine c_region ?_
  refine o_y (v := .pointer (some ⟨g1, 2, none⟩)) rfl rfl (y_fieldAddr (k := 2) rfl Try.underlying35 rfl rfl ⟨_, s4⟩ (by first | rfl | omega)) ?_
  refine o_y (v := .bool ((x).nth)) rfl rfl (y_load rfl Try.underlying4 rfl (Rd.one (k := 0) rfl rfl)) ?_
  refine o_y (v := .bool (!((x).nth))) rfl rfl (y_not rfl rfl) ?_
  refine o_y (v := .bool (!((x).nth))) rfl rfl (y_move rfl) ?_
  cases hc1 : (!((x).nth) : Bool)
  ·
    try have hc1' : ((x).nth) = true := by simpa using hc1
    -- way F
    refine o_guard (j := 3) (d := 11) (b := false) rfl rfl rfl (fun _ => ?_) rfl (fun h => by cases h)
    refine o_y (v := .slice (ap2) ((keyK (ks)).length) (capp2)) rfl rfl (y_move rfl) ?_
    refine o_guard (j := 3) (d := 11) (b := false) rfl rfl rfl (fun _ => ?_) rfl (fun h => by cases h)
    refine o_y (v := .int .i64 ((((keyK (ks)).length : Nat) : Int))) rfl rfl (y_len rfl Try.underlying22) ?_
    refine o_guard (j := 3) (d := 11) (b := false) rfl rfl rfl (fun _ => ?_) rfl (fun h => by cases h)
    refine o_y (v := .bool (decide ((((keyK (ks)).length : Nat) : Int) = 0))) rfl rfl (y_eql rfl rfl rfl) ?_
    refine o_y (v := .bool (decide ((((keyK (ks)).length : Nat) : Int) = 0))) rfl rfl (y_pick (b := false) rfl rfl) ?_
    refine o_nil ?_
    refine hK4 _ _ ?_
    refine c_cond (t := decide ((((keyK (ks)).length : Nat) : Int) = 0)) rfl (fun hc2 => ?_) (fun hc2 => ?_)
    ·
      replace hc2 := of_decide_eq_true hc2
      -- way FT
      refine c_seq fun K5 hK5 => ?_
      refine c_region ?_
      refine o_y (v := .pointer (some ⟨g1, 1, none⟩)) rfl rfl (y_fieldAddr (k := 1) rfl Try.underlying35 rfl rfl ⟨_, s3⟩ (by first | rfl | omega)) ?_
      refine o_y (v := .int .i64 ((x).k)) rfl rfl (y_load rfl Try.underlying3 rfl (Rd.one (k := 0) rfl rfl)) ?_
      refine o_y (v := .int .i64 ((x).k)) rfl rfl (y_assign rfl) ?_
      refine o_nil ?_
      refine hK5 _ _ ?_
      refine c_ret ?_
      refine fun w hw => ⟨[.int .i64 ((x).k)], ⟨rfl, trivial⟩, ?_⟩
      exact ⟨[], ⟨⟨_, rfl⟩, rfl⟩, (by rw [List.append_nil]; exact ((List.sublist_append_left _ _).cons _))⟩
      first | done | rfl
    ·
      replace hc2 := of_decide_eq_false hc2
      -- way FF
      obtain ⟨q, hq⟩ : ∃ q : Nat, (IntKind.u64.wrap (x).k).tmod (((keyK (ks)).length : Nat) : Int) = (q : Int) ∧ q < (keyK (ks)).length := by
          have h := rem_lt (x := IntKind.u64.wrap (x).k) (y := (((keyK (ks)).length : Nat) : Int)) (wrap_u64 _).1 (by omega)
          exact ⟨((IntKind.u64.wrap (x).k).tmod (((keyK (ks)).length : Nat) : Int)).toNat, by omega, by omega⟩
      refine c_skip ?_
      refine hK3 _ _ ?_
      refine c_seq fun K6 hK6 => ?_
      refine c_region ?_
      refine o_y (v := .slice (ap2) ((keyK (ks)).length) (capp2)) rfl rfl (y_move rfl) ?_
      refine o_y (v := .pointer (some ⟨g1, 1, none⟩)) rfl rfl (y_fieldAddr (k := 1) rfl Try.underlying35 rfl rfl ⟨_, s3⟩ (by first | rfl | omega)) ?_
      refine o_y (v := .int .i64 ((x).k)) rfl rfl (y_load rfl Try.underlying3 rfl (Rd.one (k := 0) rfl rfl)) ?_
      refine o_y (v := .int .u64 (IntKind.u64.wrap ((x).k))) rfl rfl (y_conv rfl Try.underlying3 Try.underlying63 rfl) ?_
      refine o_y (v := .slice (ap2) ((keyK (ks)).length) (capp2)) rfl rfl (y_move rfl) ?_
      refine o_y (v := .int .i64 ((((keyK (ks)).length : Nat) : Int))) rfl rfl (y_len rfl Try.underlying22) ?_
      refine o_y (v := .int .u64 ((((keyK (ks)).length : Nat) : Int))) rfl rfl (y_conv rfl Try.underlying3 Try.underlying63 (wi_u64 (by omega) (by omega))) ?_
      refine o_y (v := .int .u64 (((q : Nat) : Int))) rfl rfl (y_rem rfl rfl (by omega) hq.1) ?_
      refine o_y (v := .int .i64 (((q : Nat) : Int))) rfl rfl (y_conv rfl Try.underlying63 Try.underlying3 (wi_i64 (by omega) (by omega))) ?_
      refine o_y (v := .pointer (some ⟨gp2, 0 + q * 1, none⟩)) rfl rfl (y_ixO q (hvp2.at_ (by first | omega | (simp; done) | (simp; omega))) rfl rfl Try.underlying22 s3 (by omega) (by first | omega | (simp; done) | (simp; omega))) ?_
      refine o_y (v := .int .i64 ((keyK (ks))[q]'(by first | omega | (simp; done) | (simp; omega)))) rfl rfl (y_load rfl Try.underlying3 rfl (SlG.rd (SlG.own hvp2 (fun p hp => by first | exact List.mem_append_right _ (List.mem_append_right _ hp) | exact (List.mem_cons_of_mem _ (List.mem_append_right _ hp)))) q (by first | omega | (simp; done) | (simp; omega)))) ?_
      refine o_y (v := .int .i64 ((keyK (ks))[q]'(by first | omega | (simp; done) | (simp; omega)))) rfl rfl (y_assign rfl) ?_
      refine o_nil ?_
      refine hK6 _ _ ?_
      refine c_ret ?_
      refine fun w hw => ⟨[.int .i64 ((keyK (ks))[q]'(by first | omega | (simp; done) | (simp; omega)))], ⟨rfl, trivial⟩, ?_⟩
      exact ⟨[], ⟨⟨_, rfl⟩, rfl⟩, (by rw [List.append_nil]; exact ((List.sublist_append_left _ _).cons _))⟩
      first | done | rfl
  ·
    try have hc1' : ((x).nth) = false := by simpa using hc1
    -- way T
    refine o_guard (j := 3) (d := 11) (b := true) rfl rfl rfl (fun h => by cases h) rfl (fun _ => ?_)
    refine o_guard (j := 3) (d := 11) (b := true) rfl rfl rfl (fun h => by cases h) rfl (fun _ => ?_)
    refine o_guard (j := 3) (d := 11) (b := true) rfl rfl rfl (fun h => by cases h) rfl (fun _ => ?_)
    refine o_y (v := .bool (true)) rfl rfl (y_pick (b := true) rfl rfl) ?_
    refine o_nil ?_
    refine hK4 _ _ ?_
    refine c_cond (t := true) rfl (fun _ => ?_) (fun h => by cases h)
    refine c_seq fun K7 hK7 => ?_
    refine c_region ?_
    refine o_y (v := .pointer (some ⟨g1, 1, none⟩)) rfl rfl (y_fieldAddr (k := 1) rfl Try.underlying35 rfl rfl ⟨_, s3⟩ (by first | rfl | omega)) ?_
    refine o_y (v := .int .i64 ((x).k)) rfl rfl (y_load rfl Try.underlying3 rfl (Rd.one (k := 0) rfl rfl)) ?_
    refine o_y (v := .int .i64 ((x).k)) rfl rfl (y_assign rfl) ?_
    refine o_nil ?_
    refine hK7 _ _ ?_
    refine c_ret ?_
    refine fun w hw => ⟨[.int .i64 ((x).k)], ⟨rfl, trivial⟩, ?_⟩
    exact ⟨[], ⟨⟨_, rfl⟩, rfl⟩, (by rw [List.append_nil]; exact ((List.sublist_append_left _ _).cons _))⟩
    first | done | rfl

set_option maxRecDepth 100000 in
set_option maxHeartbeats 4000000 in
theorem f18_both (gl gr : Nat) (r : Int) (ks : Ks) (HL HR : Hp) (x : Act) (w : World) (hL : ListS gl r ks HL) (hR : RefK gr r ks HR) (h1 : 1 ≤ r) (h64 : r ≤ 64) (hat : At ((HL ++ HR)) w) :
    Calls Try.prog 18 [.pointer (some ⟨gl, 0, none⟩), .pointer (some ⟨gr, 0, none⟩), .agg (Act.arr (x))].toArray w fun e w' => ∃ v H', e = .returned v ∧ St w (ids ((HL ++ HR))) H' w' ∧ (fun v H => v = .bool true ∧ ∃ ks' HL' HR', (H = HL' ++ HR' ∨ H = HR' ++ HL') ∧ ListS gl r ks' HL' ∧ RefK gr r ks' HR') v H' := by
  have hle := hL.le.1
  refine (calls_of (P := Try.prog) (n := 86) (w0 := w) (S := ids ((HL ++ HR))) (H := (HL ++ HR)) (T := fun v H => ∃ H1, (fun v H => v = .bool true ∧ ∃ ks' HL' HR', (H = HL' ++ HR' ∨ H = HR' ++ HL') ∧ ListS gl r ks' HL' ∧ RefK gr r ks' HR') v H1 ∧ (H1 : Hp).Sublist H) Try.func18 rfl Try.ntmps18 (Nat.le_of_ble_eq_true rfl) [.tmp 6] rfl hat.st ?_).mono fun e w' ⟨v, H', he, hs, H1, hT, hsub⟩ => ⟨v, H1, he, hs.drop hsub, hT⟩
  refine c_seq fun K1 hK1 => ?_
  refine c_region ?_
  refine o_box (v := .agg (Act.arr (x))) rfl rfl fun g1 => ?_
  refine o_perm (H' := [(g1, .cells (Act.arr (x)) 35 (0, 0))] ++ (HL ++ HR)) (List.Perm.refl _) ?_
  refine o_y (v := .bool (false)) rfl rfl (y_assign rfl) ?_
  refine o_nil ?_
  refine hK1 _ _ ?_
  refine c_seq fun K2 hK2 => ?_
  refine c_region ?_
  refine o_y (v := .pointer (some ⟨gr, 0, none⟩)) rfl rfl (y_move rfl) ?_
  refine o_y (v := .agg (Act.arr (x))) rfl rfl (y_loadS rfl Try.underlying35 rfl s35 (Rd.whole (k := 0) rfl)) ?_
  refine o_callF (vs := [.pointer (some ⟨gr, 0, none⟩), .agg (Act.arr (x))]) b26 rfl rfl (fun w hw => f26_key gr (r) (ks) _ (x) w hR (by omega) (hw.sat ((List.Sublist.trans (List.Sublist.refl _) (List.sublist_append_right _ _)).cons _))) ?_
  rintro _ _ ⟨⟨q16, rfl⟩, rfl⟩
  refine o_y (v := .int .i64 (q16)) rfl rfl (y_assign rfl) ?_
  refine o_nil ?_
  refine hK2 _ _ ?_
  refine c_seq fun K3 hK3 => ?_
  refine c_seq fun K4 hK4 => ?_
  refine c_region ?_
  refine o_y (v := .pointer (some ⟨g1, 0, none⟩)) rfl rfl (y_fieldAddr (k := 0) rfl Try.underlying35 rfl rfl ⟨_, s3⟩ (by first | rfl | omega)) ?_
  refine o_y (v := .int .i64 ((x).a)) rfl rfl (y_load rfl Try.underlying3 rfl (Rd.one (k := 0) rfl rfl)) ?_
  refine o_nil ?_
  refine hK4 _ _ ?_
  refine c_block ?_
  refine c_seq fun K5 hK5 => ?_
  refine c_region ?_
  refine o_y (v := .bool (decide ((x).a = 0))) rfl rfl (y_eql rfl rfl rfl) ?_
  refine o_y (v := .bool (decide ((x).a = 0))) rfl rfl (y_assign rfl) ?_
  refine o_nil ?_
  refine hK5 _ _ ?_
  refine c_cond (t := decide ((x).a = 0)) rfl (fun hc1 => ?_) (fun hc1 => ?_)
  ·
    replace hc1 := of_decide_eq_true hc1
    -- way T
    refine c_seq fun K6 hK6 => ?_
    refine c_region ?_
    refine o_y (v := .pointer (some ⟨gl, 0, none⟩)) rfl rfl (y_move rfl) ?_
    refine o_y (v := .int .i64 (q16)) rfl rfl (y_move rfl) ?_
    refine o_callS ((HL)) ([(g1, .cells (Act.arr (x)) 35 (0, 0))] ++ (HR)) (by have h := List.perm_append_comm_assoc ([(g1, .cells (Act.arr (x)) 35 (0, 0))] : Hp) HL ((HR) : Hp); first | exact h | simpa [List.append_assoc] using h) (vs := [.pointer (some ⟨gl, 0, none⟩), .int .i64 (q16)]) b9 rfl rfl (fun w hat => L_touch hL (q16) w hat) ?_
    rintro _ Hp2 ⟨rfl, hLp2⟩
    refine o_perm (H' := [(g1, .cells (Act.arr (x)) 35 (0, 0))] ++ (Hp2 ++ HR)) (by have h := (List.perm_append_comm_assoc ((Hp2)) ([(g1, .cells (Act.arr (x)) 35 (0, 0))] : Hp) ((HR) : Hp)).symm; first | exact h | exact List.Perm.append_left _ h | simpa [List.append_assoc] using h) ?_
    refine o_y (v := .tuple #[.int .i64 ((touchO (r) (ks) (q16)).1), .bool ((touchO (r) (ks) (q16)).2.1), .int .i64 ((touchO (r) (ks) (q16)).2.2)]) rfl rfl (y_move rfl) ?_
    refine o_y (v := .int .i64 ((touchO (r) (ks) (q16)).1)) rfl rfl (y_extract (vs := #[.int .i64 ((touchO (r) (ks) (q16)).1), .bool ((touchO (r) (ks) (q16)).2.1), .int .i64 ((touchO (r) (ks) (q16)).2.2)]) rfl rfl) ?_
    refine o_y (v := .bool ((touchO (r) (ks) (q16)).2.1)) rfl rfl (y_extract (vs := #[.int .i64 ((touchO (r) (ks) (q16)).1), .bool ((touchO (r) (ks) (q16)).2.1), .int .i64 ((touchO (r) (ks) (q16)).2.2)]) rfl rfl) ?_
    refine o_y (v := .int .i64 ((touchO (r) (ks) (q16)).2.2)) rfl rfl (y_extract (vs := #[.int .i64 ((touchO (r) (ks) (q16)).1), .bool ((touchO (r) (ks) (q16)).2.1), .int .i64 ((touchO (r) (ks) (q16)).2.2)]) rfl rfl) ?_
    refine o_y (v := .int .i64 ((touchO (r) (ks) (q16)).1)) rfl rfl (y_assign rfl) ?_
    refine o_y (v := .bool ((touchO (r) (ks) (q16)).2.1)) rfl rfl (y_assign rfl) ?_
    refine o_y (v := .int .i64 ((touchO (r) (ks) (q16)).2.2)) rfl rfl (y_assign rfl) ?_
    refine o_nil ?_
    refine hK6 _ _ ?_
    refine c_seq fun K7 hK7 => ?_
    refine c_region ?_
    refine o_y (v := .pointer (some ⟨gr, 0, none⟩)) rfl rfl (y_move rfl) ?_
    refine o_y (v := .int .i64 (q16)) rfl rfl (y_move rfl) ?_
    refine o_callS ((HR)) ([(g1, .cells (Act.arr (x)) 35 (0, 0))] ++ (Hp2)) (by have h := List.perm_append_comm_assoc ([(g1, .cells (Act.arr (x)) 35 (0, 0))] ++ (Hp2) : Hp) HR ([] : Hp); first | exact h | simpa [List.append_assoc] using h) (vs := [.pointer (some ⟨gr, 0, none⟩), .int .i64 (q16)]) b27 rfl rfl (fun w hat => RL_touch hR (by first | omega | (have h := touch_len (k := q16) hle h1; omega) | (rw [pin_len]; omega) | (have h := drop_len ks (q16); omega)) (q16) w hat ) ?_
    rintro _ Hp3 ⟨rfl, hRp3⟩
    refine o_perm (H' := [(g1, .cells (Act.arr (x)) 35 (0, 0))] ++ (Hp3 ++ Hp2)) (by have h := (List.perm_append_comm_assoc ((Hp3)) ([(g1, .cells (Act.arr (x)) 35 (0, 0))] : Hp) ((Hp2) : Hp)).symm; first | exact h | exact List.Perm.append_left _ h | simpa [List.append_assoc] using h) ?_
    refine o_y (v := .tuple #[.int .i64 ((touchO (r) (ks) (q16)).1), .bool ((touchO (r) (ks) (q16)).2.1), .int .i64 ((touchO (r) (ks) (q16)).2.2)]) rfl rfl (y_move rfl) ?_
    refine o_y (v := .int .i64 ((touchO (r) (ks) (q16)).1)) rfl rfl (y_extract (vs := #[.int .i64 ((touchO (r) (ks) (q16)).1), .bool ((touchO (r) (ks) (q16)).2.1), .int .i64 ((touchO (r) (ks) (q16)).2.2)]) rfl rfl) ?_
    refine o_y (v := .bool ((touchO (r) (ks) (q16)).2.1)) rfl rfl (y_extract (vs := #[.int .i64 ((touchO (r) (ks) (q16)).1), .bool ((touchO (r) (ks) (q16)).2.1), .int .i64 ((touchO (r) (ks) (q16)).2.2)]) rfl rfl) ?_
    refine o_y (v := .int .i64 ((touchO (r) (ks) (q16)).2.2)) rfl rfl (y_extract (vs := #[.int .i64 ((touchO (r) (ks) (q16)).1), .bool ((touchO (r) (ks) (q16)).2.1), .int .i64 ((touchO (r) (ks) (q16)).2.2)]) rfl rfl) ?_
    refine o_y (v := .int .i64 ((touchO (r) (ks) (q16)).1)) rfl rfl (y_assign rfl) ?_
    refine o_y (v := .bool ((touchO (r) (ks) (q16)).2.1)) rfl rfl (y_assign rfl) ?_
    refine o_y (v := .int .i64 ((touchO (r) (ks) (q16)).2.2)) rfl rfl (y_assign rfl) ?_
    refine o_nil ?_
    refine hK7 _ _ ?_
    refine c_seq fun K8 hK8 => ?_
    refine c_region ?_
    refine o_y (v := .int .i64 ((touchO (r) (ks) (q16)).1)) rfl rfl (y_move rfl) ?_
    refine o_y (v := .int .i64 ((touchO (r) (ks) (q16)).1)) rfl rfl (y_move rfl) ?_
    refine o_y (v := .bool (true)) rfl rfl (y_bool (y_eql rfl rfl rfl) (decide_eq_true rfl)) ?_
    refine o_y (v := .bool (true)) rfl rfl (y_move rfl) ?_
    refine o_guard (j := 3) (d := 38) (b := true) rfl rfl rfl (fun _ => ?_) rfl (fun h => by cases h)
    refine o_y (v := .bool ((touchO (r) (ks) (q16)).2.1)) rfl rfl (y_move rfl) ?_
    refine o_guard (j := 3) (d := 38) (b := true) rfl rfl rfl (fun _ => ?_) rfl (fun h => by cases h)
    refine o_y (v := .bool ((touchO (r) (ks) (q16)).2.1)) rfl rfl (y_move rfl) ?_
    refine o_guard (j := 3) (d := 38) (b := true) rfl rfl rfl (fun _ => ?_) rfl (fun h => by cases h)
    refine o_y (v := .bool (true)) rfl rfl (y_bool (y_eqlB rfl rfl Try.underlying4 rfl) (beq_self_eq_true _)) ?_
    refine o_y (v := .bool (true)) rfl rfl (y_pick (b := true) rfl rfl) ?_
    refine o_y (v := .bool (true)) rfl rfl (y_move rfl) ?_
    refine o_guard (j := 8) (d := 43) (b := true) rfl rfl rfl (fun _ => ?_) rfl (fun h => by cases h)
    refine o_y (v := .int .i64 ((touchO (r) (ks) (q16)).2.2)) rfl rfl (y_move rfl) ?_
    refine o_guard (j := 8) (d := 43) (b := true) rfl rfl rfl (fun _ => ?_) rfl (fun h => by cases h)
    refine o_y (v := .int .i64 ((touchO (r) (ks) (q16)).2.2)) rfl rfl (y_move rfl) ?_
    refine o_guard (j := 8) (d := 43) (b := true) rfl rfl rfl (fun _ => ?_) rfl (fun h => by cases h)
    refine o_y (v := .bool (true)) rfl rfl (y_bool (y_eql rfl rfl rfl) (decide_eq_true rfl)) ?_
    refine o_y (v := .bool (true)) rfl rfl (y_pick (b := true) rfl rfl) ?_
    refine o_y (v := .bool (true)) rfl rfl (y_assign rfl) ?_
    refine o_nil ?_
    refine hK8 _ _ ?_
    refine c_ret ?_
    refine fun w hw => ⟨[.bool (true)], ⟨rfl, trivial⟩, ?_⟩
    exact ⟨Hp3 ++ Hp2, ⟨rfl, _, _, _, .inr rfl, hLp2, hRp3⟩, ((List.Sublist.refl _).cons _)⟩
    first | done | rfl
  ·
    replace hc1 := of_decide_eq_false hc1
    -- way F
    refine c_seq fun K9 hK9 => ?_
    refine c_region ?_
    refine o_y (v := .bool (decide ((x).a = 1))) rfl rfl (y_eql rfl rfl rfl) ?_
    refine o_y (v := .bool (decide ((x).a = 1))) rfl rfl (y_assign rfl) ?_
    refine o_nil ?_
    refine hK9 _ _ ?_
    refine c_cond (t := decide ((x).a = 1)) rfl (fun hc2 => ?_) (fun hc2 => ?_)
    ·
      replace hc2 := of_decide_eq_true hc2
      -- way FT
      refine c_seq fun K10 hK10 => ?_
      refine c_drawF [0, 1, 2, 3, 5, 6, 7, 8] [4, 9, 10, 11] [0, 1, 2, 3] (by kernel_rfl) (by kernel_rfl) ?_
      refine f_e (v := .pointer (some ⟨gl, 0, none⟩)) rfl rfl (qn rfl (y_move rfl)) ?_
      refine f_e (v := .int .i64 (q16)) rfl rfl (qn rfl (y_move rfl)) ?_
      refine f_e (v := .pointer (some ⟨g1, 3, none⟩)) rfl rfl (qn rfl (y_fieldAddr (k := 3) rfl Try.underlying35 rfl rfl ⟨_, s4⟩ (by first | rfl | omega))) ?_
      refine f_e (v := .bool ((x).is)) rfl rfl (qn rfl (y_load rfl Try.underlying4 rfl (Rd.one (k := 0) rfl rfl))) ?_
      refine f_l (v := .pointer (some ⟨gr, 0, none⟩)) rfl rfl (qn rfl (y_move rfl)) ?_
      refine f_l (v := .int .i64 (q16)) rfl rfl (qn rfl (y_move rfl)) ?_
      refine f_l (v := .pointer (some ⟨g1, 3, none⟩)) rfl rfl (qn rfl (y_fieldAddr (k := 3) rfl Try.underlying35 rfl rfl ⟨_, s4⟩ (by first | rfl | omega))) ?_
      refine f_l (v := .bool ((x).is)) rfl rfl (qn rfl (y_load rfl Try.underlying4 rfl (Rd.one (k := 0) rfl rfl))) ?_
      refine f_nil ?_
      refine t_step rfl ?_
      refine o_callS ((HL)) ([(g1, .cells (Act.arr (x)) 35 (0, 0))] ++ (HR)) (by have h := List.perm_append_comm_assoc ([(g1, .cells (Act.arr (x)) 35 (0, 0))] : Hp) HL ((HR) : Hp); first | exact h | simpa [List.append_assoc] using h) (vs := [.pointer (some ⟨gl, 0, none⟩), .int .i64 (q16), .bool ((x).is)]) b13 rfl rfl (fun w hat => L_pin hL (q16) w hat ((x).is)) ?_
      rintro _ Hp4 ⟨rfl, hLp4⟩
      refine o_perm (H' := [(g1, .cells (Act.arr (x)) 35 (0, 0))] ++ (Hp4 ++ HR)) (by have h := (List.perm_append_comm_assoc ((Hp4)) ([(g1, .cells (Act.arr (x)) 35 (0, 0))] : Hp) ((HR) : Hp)).symm; first | exact h | exact List.Perm.append_left _ h | simpa [List.append_assoc] using h) ?_
      refine o_nil ⟨rfl, ⟨qn rfl (y_load rfl Try.underlying4 rfl (Rd.one (k := 0) rfl rfl)), ⟨qn rfl (y_fieldAddr (k := 3) rfl Try.underlying35 rfl rfl ⟨_, s4⟩ (by first | rfl | omega)), ⟨qn rfl (y_move rfl), ⟨qn rfl (y_move rfl), trivial⟩⟩⟩⟩, ?_⟩
      refine t_step rfl ?_
      refine o_callS ((HR)) ([(g1, .cells (Act.arr (x)) 35 (0, 0))] ++ (Hp4)) (by have h := List.perm_append_comm_assoc ([(g1, .cells (Act.arr (x)) 35 (0, 0))] ++ (Hp4) : Hp) HR ([] : Hp); first | exact h | simpa [List.append_assoc] using h) (vs := [.pointer (some ⟨gr, 0, none⟩), .int .i64 (q16), .bool ((x).is)]) b28 rfl rfl (fun w hat => RL_pin hR (by first | omega | (have h := touch_len (k := q16) hle h1; omega) | (rw [pin_len]; omega) | (have h := drop_len ks (q16); omega)) (q16) w hat ((x).is)) ?_
      rintro _ Hp5 ⟨rfl, hRp5⟩
      refine o_perm (H' := [(g1, .cells (Act.arr (x)) 35 (0, 0))] ++ (Hp5 ++ Hp4)) (by have h := (List.perm_append_comm_assoc ((Hp5)) ([(g1, .cells (Act.arr (x)) 35 (0, 0))] : Hp) ((Hp4) : Hp)).symm; first | exact h | exact List.Perm.append_left _ h | simpa [List.append_assoc] using h) ?_
      refine o_nil ⟨rfl, ⟨qn rfl (y_load rfl Try.underlying4 rfl (Rd.one (k := 0) rfl rfl)), ⟨qn rfl (y_fieldAddr (k := 3) rfl Try.underlying35 rfl rfl ⟨_, s4⟩ (by first | rfl | omega)), ⟨qn rfl (y_move rfl), ⟨qn rfl (y_move rfl), trivial⟩⟩⟩⟩, ?_⟩
      refine t_step rfl ?_
      refine o_y (v := .bool (true)) rfl rfl (y_bool (y_eql rfl rfl rfl) (decide_eq_true rfl)) ?_
      refine o_nil ⟨rfl, ⟨qn rfl (y_load rfl Try.underlying4 rfl (Rd.one (k := 0) rfl rfl)), ⟨qn rfl (y_fieldAddr (k := 3) rfl Try.underlying35 rfl rfl ⟨_, s4⟩ (by first | rfl | omega)), ⟨qn rfl (y_move rfl), ⟨qn rfl (y_move rfl), trivial⟩⟩⟩⟩, ?_⟩
      refine t_step rfl ?_
      refine o_y (v := .bool (true)) rfl rfl (y_assign rfl) ?_
      refine o_nil ⟨rfl, ⟨qn rfl (y_load rfl Try.underlying4 rfl (Rd.one (k := 0) rfl rfl)), ⟨qn rfl (y_fieldAddr (k := 3) rfl Try.underlying35 rfl rfl ⟨_, s4⟩ (by first | rfl | omega)), ⟨qn rfl (y_move rfl), ⟨qn rfl (y_move rfl), trivial⟩⟩⟩⟩, ?_⟩
      refine t_nil ?_
      refine hK10 _ _ ?_
      refine c_ret ?_
      refine fun w hw => ⟨[.bool (true)], ⟨rfl, trivial⟩, ?_⟩
      exact ⟨Hp5 ++ Hp4, ⟨rfl, _, _, _, .inr rfl, hLp4, hRp5⟩, ((List.Sublist.refl _).cons _)⟩
      first | done | rfl
    ·
      replace hc2 := of_decide_eq_false hc2
      -- way FF
      refine c_seq fun K11 hK11 => ?_
      refine c_region ?_
      refine o_y (v := .bool (decide ((x).a = 2))) rfl rfl (y_eql rfl rfl rfl) ?_
      refine o_y (v := .bool (decide ((x).a = 2))) rfl rfl (y_assign rfl) ?_
      refine o_nil ?_
      refine hK11 _ _ ?_
      refine c_cond (t := decide ((x).a = 2)) rfl (fun hc3 => ?_) (fun hc3 => ?_)
      ·
        replace hc3 := of_decide_eq_true hc3
        -- way FFT
        refine c_seq fun K12 hK12 => ?_
        refine c_region ?_
        refine o_y (v := .pointer (some ⟨gl, 0, none⟩)) rfl rfl (y_move rfl) ?_
        refine o_y (v := .int .i64 (q16)) rfl rfl (y_move rfl) ?_
        refine o_callS ((HL)) ([(g1, .cells (Act.arr (x)) 35 (0, 0))] ++ (HR)) (by have h := List.perm_append_comm_assoc ([(g1, .cells (Act.arr (x)) 35 (0, 0))] : Hp) HL ((HR) : Hp); first | exact h | simpa [List.append_assoc] using h) (vs := [.pointer (some ⟨gl, 0, none⟩), .int .i64 (q16)]) b15 rfl rfl (fun w hat => L_drop hL (q16) w hat ) ?_
        rintro _ Hp6 ⟨rfl, hLp6⟩
        refine o_perm (H' := [(g1, .cells (Act.arr (x)) 35 (0, 0))] ++ (Hp6 ++ HR)) (by have h := (List.perm_append_comm_assoc ((Hp6)) ([(g1, .cells (Act.arr (x)) 35 (0, 0))] : Hp) ((HR) : Hp)).symm; first | exact h | exact List.Perm.append_left _ h | simpa [List.append_assoc] using h) ?_
        refine o_y (v := .pointer (some ⟨gr, 0, none⟩)) rfl rfl (y_move rfl) ?_
        refine o_y (v := .int .i64 (q16)) rfl rfl (y_move rfl) ?_
        refine o_callS ((HR)) ([(g1, .cells (Act.arr (x)) 35 (0, 0))] ++ (Hp6)) (by have h := List.perm_append_comm_assoc ([(g1, .cells (Act.arr (x)) 35 (0, 0))] ++ (Hp6) : Hp) HR ([] : Hp); first | exact h | simpa [List.append_assoc] using h) (vs := [.pointer (some ⟨gr, 0, none⟩), .int .i64 (q16)]) b29 rfl rfl (fun w hat => RL_drop hR (by first | omega | (have h := touch_len (k := q16) hle h1; omega) | (rw [pin_len]; omega) | (have h := drop_len ks (q16); omega)) (q16) w hat ) ?_
        rintro _ Hp7 ⟨rfl, hRp7⟩
        refine o_perm (H' := [(g1, .cells (Act.arr (x)) 35 (0, 0))] ++ (Hp7 ++ Hp6)) (by have h := (List.perm_append_comm_assoc ((Hp7)) ([(g1, .cells (Act.arr (x)) 35 (0, 0))] : Hp) ((Hp6) : Hp)).symm; first | exact h | exact List.Perm.append_left _ h | simpa [List.append_assoc] using h) ?_
        refine o_y (v := .bool (true)) rfl rfl (y_bool (y_eql rfl rfl rfl) (decide_eq_true rfl)) ?_
        refine o_y (v := .bool (true)) rfl rfl (y_assign rfl) ?_
        refine o_nil ?_
        refine hK12 _ _ ?_
        refine c_ret ?_
        refine fun w hw => ⟨[.bool (true)], ⟨rfl, trivial⟩, ?_⟩
        exact ⟨Hp7 ++ Hp6, ⟨rfl, _, _, _, .inr rfl, hLp6, hRp7⟩, ((List.Sublist.refl _).cons _)⟩
        first | done | rfl
      ·
        replace hc3 := of_decide_eq_false hc3
        -- way FFF
        refine c_skip ?_
        refine hK3 _ _ ?_
        refine c_seq fun K13 hK13 => ?_
        refine c_region ?_
        refine o_y (v := .pointer (some ⟨gl, 0, none⟩)) rfl rfl (y_move rfl) ?_
        refine o_y (v := .int .i64 (q16)) rfl rfl (y_move rfl) ?_
        refine o_y (v := .bool (hasK (ks) (q16))) rfl rfl (y_call (vs := [.pointer (some ⟨gl, 0, none⟩), .int .i64 (q16)]) b14 rfl (fun w hw => L_has hL (q16) w (hw.sat ((List.sublist_append_left _ _).cons _)))) ?_
        refine o_y (v := .pointer (some ⟨gr, 0, none⟩)) rfl rfl (y_move rfl) ?_
        refine o_y (v := .int .i64 (q16)) rfl rfl (y_move rfl) ?_
        refine o_y (v := .bool (hasK (ks) (q16))) rfl rfl (y_call (vs := [.pointer (some ⟨gr, 0, none⟩), .int .i64 (q16)]) b30 rfl (fun w hw => RL_has hR (by first | omega | (have h := touch_len (k := q16) hle h1; omega) | (rw [pin_len]; omega) | (have h := drop_len ks (q16); omega)) (q16) w (hw.sat ((List.Sublist.trans (List.Sublist.refl _) (List.sublist_append_right _ _)).cons _)))) ?_
        refine o_y (v := .bool (true)) rfl rfl (y_bool (y_eqlB rfl rfl Try.underlying4 rfl) (beq_self_eq_true _)) ?_
        refine o_y (v := .bool (true)) rfl rfl (y_move rfl) ?_
        refine o_guard (j := 7) (d := 77) (b := true) rfl rfl rfl (fun _ => ?_) rfl (fun h => by cases h)
        refine o_y (v := .pointer (some ⟨gl, 0, none⟩)) rfl rfl (y_move rfl) ?_
        refine o_guard (j := 7) (d := 77) (b := true) rfl rfl rfl (fun _ => ?_) rfl (fun h => by cases h)
        refine o_y (v := .int .i64 (q16)) rfl rfl (y_move rfl) ?_
        refine o_guard (j := 7) (d := 77) (b := true) rfl rfl rfl (fun _ => ?_) rfl (fun h => by cases h)
        refine o_y (v := .bool (pndK (ks) (q16))) rfl rfl (y_call (vs := [.pointer (some ⟨gl, 0, none⟩), .int .i64 (q16)]) b16 rfl (fun w hw => L_pnd hL (q16) w (hw.sat ((List.sublist_append_left _ _).cons _)))) ?_
        refine o_guard (j := 7) (d := 77) (b := true) rfl rfl rfl (fun _ => ?_) rfl (fun h => by cases h)
        refine o_y (v := .pointer (some ⟨gr, 0, none⟩)) rfl rfl (y_move rfl) ?_
        refine o_guard (j := 7) (d := 77) (b := true) rfl rfl rfl (fun _ => ?_) rfl (fun h => by cases h)
        refine o_y (v := .int .i64 (q16)) rfl rfl (y_move rfl) ?_
        refine o_guard (j := 7) (d := 77) (b := true) rfl rfl rfl (fun _ => ?_) rfl (fun h => by cases h)
        refine o_y (v := .bool (pndK (ks) (q16))) rfl rfl (y_call (vs := [.pointer (some ⟨gr, 0, none⟩), .int .i64 (q16)]) b31 rfl (fun w hw => RL_pnd hR (by first | omega | (have h := touch_len (k := q16) hle h1; omega) | (rw [pin_len]; omega) | (have h := drop_len ks (q16); omega)) (q16) w (hw.sat ((List.Sublist.trans (List.Sublist.refl _) (List.sublist_append_right _ _)).cons _)))) ?_
        refine o_guard (j := 7) (d := 77) (b := true) rfl rfl rfl (fun _ => ?_) rfl (fun h => by cases h)
        refine o_y (v := .bool (true)) rfl rfl (y_bool (y_eqlB rfl rfl Try.underlying4 rfl) (beq_self_eq_true _)) ?_
        refine o_y (v := .bool (true)) rfl rfl (y_pick (b := true) rfl rfl) ?_
        refine o_y (v := .bool (true)) rfl rfl (y_assign rfl) ?_
        refine o_nil ?_
        refine hK13 _ _ ?_
        refine c_ret ?_
        refine fun w hw => ⟨[.bool (true)], ⟨rfl, trivial⟩, ?_⟩
        exact ⟨HL ++ HR, ⟨rfl, _, _, _, .inl rfl, hL, hR⟩, ((List.Sublist.refl _).cons _)⟩
        first | done | rfl

theorem L_both {gl gr : Nat} {r : Int} {ks : Ks} {HL HR : Hp} (x : Act) (w : World) (hL : ListS gl r ks HL) (hR : RefK gr r ks HR) (h1 : 1 ≤ r) (h64 : r ≤ 64) (hat : At (HL ++ HR) w) :
    Calls Try.prog 18 [.pointer (some ⟨gl, 0, none⟩), .pointer (some ⟨gr, 0, none⟩), .agg (Act.arr x)].toArray w fun e w' => ∃ v H', e = .returned v ∧ St w (ids (HL ++ HR)) H' w' ∧ v = .bool true ∧ ∃ ks' HL' HR', H' = HL' ++ HR' ∧ ListS gl r ks' HL' ∧ RefK gr r ks' HR' := by
  refine (f18_both gl gr r ks HL HR x w hL hR h1 h64 hat).mono ?_
  rintro e w' ⟨v, H', he, hs, hv, ks', HL', HR', rfl | rfl, h3, h4⟩
  · exact ⟨v, _, he, hs, hv, ks', HL', HR', rfl, h3, h4⟩
  · exact ⟨v, HL' ++ HR', he, hs.perm List.perm_append_comm, hv, ks', HL', HR', rfl, h3, h4⟩

end Go.Proofs.Ytpbpenlceigddaa.Lru
