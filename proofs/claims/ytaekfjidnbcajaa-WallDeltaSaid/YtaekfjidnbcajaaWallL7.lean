/- Proved: what a law of package wall comes to; the conditions stand in the statements. -/
import Derived.Test.YtaekfjidnbcajaaWallG
set_option linter.unusedVariables false
set_option linter.unusedSimpArgs false
namespace Go.Proofs.Ytaekfjidnbcajaa.Wall
open Go Go.RowKit Go.Proofs.Ytaekfjidnbcajaa.Eng

set_option maxRecDepth 100000 in
set_option maxHeartbeats 4000000 in
theorem f7_WallDelta (l : List Blk) (a1 : Option Addr) (b1 o1 cap1 m1 : Nat) (n : Int) (x : Blk) (w : World) (hn0 : -9223372036854775808 ≤ n) (hn1 : n ≤ 9223372036854775807) (hb : l.length * 64 ≤ 140737488351232) (hm1 : m1 = l.length) (hs : Sl eBlk w l a1 b1 o1 cap1) :
    Calls Try.prog 7 [.slice (a1) (m1) (cap1), .int .i64 (n), .agg (bv (x))].toArray w fun e w' => e = .returned (.bool (true)) ∧ Below w.heap.size w w' := by
  subst hm1
  have hle := hs.le
  have hmx := hs.mx
  simp only [maxLen] at hmx
  refine (calls_of (P := Try.prog) (n := 40) (w0 := w) (S := fun _ => False) (H := []) (T := fun v _ => v = (.bool (true))) Try.func7 rfl Try.ntmps7 (Nat.le_of_ble_eq_true rfl) [.tmp 6] rfl (St.nil w _) ?_).mono fun e w' ⟨v, H', he, hs, hT⟩ => ⟨by rw [he, hT], hs.below⟩
  refine c_seq fun K1 hK1 => ?_
  refine c_region ?_
  refine o_box (v := .agg (bv (x))) rfl rfl fun g1 => ?_
  refine o_y (v := .bool (false)) rfl rfl (y_assign rfl) ?_
  refine o_nil ?_
  refine hK1 _ _ ?_
  refine c_seq fun K2 hK2 => ?_
  refine c_seq fun K3 hK3 => ?_
  refine c_region ?_
  refine o_y (v := .slice (a1) ((l).length) (cap1)) rfl rfl (y_move rfl) ?_
  refine o_y (v := .int .i64 ((((l).length : Nat) : Int))) rfl rfl (y_len rfl Try.underlying22) ?_
  refine o_y (v := .bool (decide ((((l).length : Nat) : Int) = 0))) rfl rfl (y_eql rfl rfl rfl) ?_
  refine o_nil ?_
  refine hK3 _ _ ?_
  refine c_cond (t := decide ((((l).length : Nat) : Int) = 0)) rfl (fun hc1 => ?_) (fun hc1 => ?_)
  ·
    replace hc1 := of_decide_eq_true hc1
    -- way T
    refine c_seq fun K4 hK4 => ?_
    refine c_region ?_
    refine o_y (v := .bool (true)) rfl rfl (y_call (vs := []) b11 rfl (fun w hw => f11_lives w)) ?_
    refine o_y (v := .bool (true)) rfl rfl (y_assign rfl) ?_
    refine o_nil ?_
    refine hK4 _ _ ?_
    refine c_ret ?_
    refine fun w hw => ⟨[.bool (true)], ⟨rfl, trivial⟩, ?_⟩
    exact rfl
  ·
    replace hc1 := of_decide_eq_false hc1
    -- way F
    have hk := kN_lt n l.length (by omega)
    refine c_skip ?_
    refine hK2 _ _ ?_
    refine c_seq fun K5 hK5 => ?_
    refine c_region ?_
    refine o_y (v := .int .i64 (n)) rfl rfl (y_move rfl) ?_
    refine o_y (v := .int .u64 (n % 18446744073709551616)) rfl rfl (y_conv rfl Try.underlying3 Try.underlying32 (wrap_u64 n)) ?_
    refine o_y (v := .slice (a1) ((l).length) (cap1)) rfl rfl (y_move rfl) ?_
    refine o_y (v := .int .i64 ((((l).length : Nat) : Int))) rfl rfl (y_len rfl Try.underlying22) ?_
    refine o_y (v := .int .u64 ((((l).length : Nat) : Int))) rfl rfl (y_conv rfl Try.underlying3 Try.underlying32 (wi_u64 (by omega) (by omega))) ?_
    refine o_y (v := .int .u64 (((kN n (l.length) : Nat) : Int))) rfl rfl (y_rem rfl rfl (by omega) (kN_eq n (l.length) (by omega))) ?_
    refine o_y (v := .int .i64 (((kN n (l.length) : Nat) : Int))) rfl rfl (y_conv rfl Try.underlying32 Try.underlying3 (wi_i64 (by omega) (by omega))) ?_
    refine o_y (v := .int .i64 (((kN n (l.length) : Nat) : Int))) rfl rfl (y_assign rfl) ?_
    refine o_nil ?_
    refine hK5 _ _ ?_
    refine c_seq fun K6 hK6 => ?_
    refine c_region ?_
    refine o_y (v := .slice (a1) ((l).length) (cap1)) rfl rfl (y_move rfl) ?_
    refine o_callNew (vs := [.slice (a1) ((l).length) (cap1)]) b8 rfl rfl (fun w hw => f8_copy (l) _ _ _ _ _ w (by first | omega | (simp; done) | (simp; omega)) (by first | omega | (simp; done) | (simp; omega)) (by simp) ((SlG.old hs (fun _ h => h)) w hw)) ?_
    rintro _ _ ⟨g2, cg2, capg2, rfl, rfl, hrg2⟩
    have hmg2 := hrg2.mx
    have hlg2 := hrg2.le
    simp only [maxLen] at hmg2
    refine o_y (v := .slice (some ⟨g2, 0, none⟩) ((l).length) (capg2)) rfl rfl (y_assign rfl) ?_
    refine o_nil ?_
    refine hK6 _ _ ?_
    refine c_seq fun K7 hK7 => ?_
    refine c_region ?_
    refine o_y (v := .slice (some ⟨g2, 0, none⟩) ((l).length) (capg2)) rfl rfl (y_move rfl) ?_
    refine o_y (v := .int .i64 (((kN n (l.length) : Nat) : Int))) rfl rfl (y_move rfl) ?_
    refine o_y (v := .agg (bv (x))) rfl rfl (y_loadB T25 rfl (Rd.whole (k := 1) rfl)) ?_
    refine o_y (v := .pointer (some ⟨g2, 0 + (kN n (l.length)) * 64, none⟩)) rfl rfl (y_ixO (kN n (l.length)) rfl rfl rfl Try.underlying22 s25 (by omega) (by first | omega | (simp; done) | (simp; omega))) ?_
    refine o_storeRow (E := eBlk) (u := x) 0 (kN n (l.length)) rfl (by show _ = _ * 64; omega) rfl rfl s25 rfl hrg2 (by first | omega | (simp; done) | (simp; omega)) fun cq3 hrq3 => ?_
    refine o_nil ?_
    refine hK7 _ _ ?_
    refine c_seq fun K8 hK8 => ?_
    refine c_draw 15 (by kernel_rfl) (by kernel_rfl) ?_
    refine q_y (v := .slice (a1) ((l).length) (cap1)) rfl (y_move rfl) ?_
    refine q_y (v := .agg (bv (foldB (l)))) rfl (y_call (vs := [.slice (a1) ((l).length) (cap1)]) b9 rfl (fun w hw => f9_fold _ _ _ _ _ _ w (by first | (simp; done) | (simp; omega) | omega) ((SlG.old hs (fun _ h => h)) w hw))) ?_
    refine q_y (v := .slice (a1) ((l).length) (cap1)) rfl (y_move rfl) ?_
    refine q_y (v := .int .i64 (((kN n (l.length) : Nat) : Int))) rfl (y_move rfl) ?_
    refine q_y (v := .pointer (some ⟨b1, o1 + (kN n (l.length)) * 64, none⟩)) rfl (y_ixO (kN n (l.length)) (hs.at_ (by omega)) rfl rfl Try.underlying22 s25 (by omega) (by first | omega | (simp; done) | (simp; omega))) ?_
    refine q_y (v := .agg (bv ((l)[kN n (l.length)]))) rfl (y_loadB T25 rfl (SlG.rd (SlG.old hs (fun _ h => h)) (kN n (l.length)) (by first | omega | (simp; done) | (simp; omega)))) ?_
    refine q_y (v := .agg (bv (x))) rfl (y_loadB T25 rfl (Rd.whole (k := 1) rfl)) ?_
    refine q_y (v := .agg (bv (xorB (foldB (l)) (xorB ((l)[kN n (l.length)]) (x))))) rfl (y_call (vs := [.agg (bv (foldB (l))), .agg (bv ((l)[kN n (l.length)])), .agg (bv (x))]) b18 rfl (fun w hw => f18_delta _ _ _ w)) ?_
    refine q_y (v := .slice (some ⟨g2, 0, none⟩) ((l).length) (capg2)) rfl (y_move rfl) ?_
    refine q_y (v := .agg (bv (foldB ((l).set (kN n (l.length)) x)))) rfl (y_call (vs := [.slice (some ⟨g2, 0, none⟩) ((l).length) (capg2)]) b9 rfl (fun w hw => f9_fold _ _ _ _ _ _ w (by first | (simp; done) | (simp; omega) | omega) ((SlG.row (k := 0) rfl hrq3) w hw))) ?_
    refine q_y (v := .bool (true)) rfl (y_bool (y_eqlV T25 rfl rfl) (decide_eq_true (fold_set _ _ _ _))) ?_
    refine q_y (v := .bool (true)) rfl (y_move rfl) ?_
    refine q_guardT (j := 11) (d := 37) rfl rfl rfl ?_
    refine q_y (v := .bool (true)) rfl (y_call (vs := []) b11 rfl (fun w hw => f11_lives w)) ?_
    refine q_y (v := .bool (true)) rfl (y_pick (b := true) rfl rfl) ?_
    refine q_y (v := .bool (true)) rfl (y_assign rfl) ?_
    refine q_nil ?_
    refine o_nil ?_
    refine hK8 _ _ ?_
    refine c_ret ?_
    refine fun w hw => ⟨[.bool (true)], ⟨rfl, trivial⟩, ?_⟩
    exact rfl

end Go.Proofs.Ytaekfjidnbcajaa.Wall
