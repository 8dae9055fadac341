/- Proved: what the laws of the parities come to; the conditions stand in the statements. -/
import Derived.Test.YtdekckpoolkgnaaPlanP
set_option linter.unusedVariables false
set_option linter.unusedSimpArgs false
namespace Go.Proofs.Ytdekckpoolkgnaa.Plan
open Go Go.RowKit Go.Proofs.Ytdekckpoolkgnaa.Eng

set_option maxRecDepth 100000 in
set_option maxHeartbeats 4000000 in
theorem f6_PlanParity (way : Int) (w1 : List Bool) (a1 : Option Addr) (b1 o1 cap1 m1 : Nat) (l2 : List Blk) (a2 : Option Addr) (b2 o2 cap2 m2 : Nat) (l3 : List Blk) (a3 : Option Addr) (b3 o3 cap3 m3 : Nat) (b : Blk) (w : World) (hm1 : m1 = w1.length) (hs1 : Sl eBool w w1 a1 b1 o1 cap1) (hm2 : m2 = l2.length) (hs2 : Sl eBlk w l2 a2 b2 o2 cap2) (hm3 : m3 = l3.length) (hs3 : Sl eBlk w l3 a3 b3 o3 cap3) :
    Calls Try.prog 6 [.int .u8 (way), .slice (a1) (m1) (cap1), .slice (a2) (m2) (cap2), .slice (a3) (m3) (cap3), .agg (bv (b))].toArray w fun e w' => e = .returned (.bool (true)) ∧ Below w.heap.size w w' := by
  subst hm1
  subst hm2
  subst hm3
  have hle1 := hs1.le
  have hle2 := hs2.le
  have hle3 := hs3.le
  have hmx1 := hs1.mx
  have hmx2 := hs2.mx
  have hmx3 := hs3.mx
  simp only [maxLen] at hmx1 hmx2 hmx3
  refine (calls_of (P := Try.prog) (n := 44) (w0 := w) (S := fun _ => False) (H := []) (T := fun v _ => v = (.bool (true))) Try.func6 rfl Try.ntmps6 (Nat.le_of_ble_eq_true rfl) [.tmp 10] rfl (St.nil w _) ?_).mono fun e w' ⟨v, H', he, hs, hT⟩ => ⟨by rw [he, hT], hs.below⟩
  refine c_seq fun K1 hK1 => ?_
  refine c_region ?_
  refine o_box (v := .agg (bv (b))) rfl rfl fun g1 => ?_
  refine o_y (v := .bool (false)) rfl rfl (y_assign rfl) ?_
  refine o_nil ?_
  refine hK1 _ _ ?_
  refine c_seq fun K2 hK2 => ?_
  refine c_region ?_
  refine o_y (v := .int .u8 (way)) rfl rfl (y_move rfl) ?_
  refine o_y (v := .slice (a1) ((w1).length) (cap1)) rfl rfl (y_move rfl) ?_
  refine o_y (v := .slice (a2) ((l2).length) (cap2)) rfl rfl (y_move rfl) ?_
  refine o_y (v := .slice (a3) ((l3).length) (cap3)) rfl rfl (y_move rfl) ?_
  refine o_y (v := .agg (bv (b))) rfl rfl (y_loadB T35 rfl (Rd.whole (k := 0) rfl)) ?_
  refine o_y (v := .tuple #[.agg (bv (parB (way) (w1) (l2) (l3) (b))), .int .i64 (parE (way) (w1) (l2) (l3) (b))]) rfl rfl (y_call (vs := [.int .u8 (way), .slice (a1) ((w1).length) (cap1), .slice (a2) ((l2).length) (cap2), .slice (a3) ((l3).length) (cap3), .agg (bv (b))]) b12 rfl (fun w hw => f12_Parity (way) (w1) _ _ _ _ _ (l2) _ _ _ _ _ (l3) _ _ _ _ _ (b) w (by first | rfl | omega | (simp; done) | (simp; omega)) ((SlG.old hs1 (fun _ h => h)) w hw) (by first | rfl | omega | (simp; done) | (simp; omega)) ((SlG.old hs2 (fun _ h => h)) w hw) (by first | rfl | omega | (simp; done) | (simp; omega)) ((SlG.old hs3 (fun _ h => h)) w hw))) ?_
  refine o_y (v := .tuple #[.agg (bv (parB (way) (w1) (l2) (l3) (b))), .int .i64 (parE (way) (w1) (l2) (l3) (b))]) rfl rfl (y_move rfl) ?_
  refine o_y (v := .agg (bv (parB (way) (w1) (l2) (l3) (b)))) rfl rfl (y_extract (vs := #[.agg (bv (parB (way) (w1) (l2) (l3) (b))), .int .i64 (parE (way) (w1) (l2) (l3) (b))]) rfl rfl) ?_
  refine o_y (v := .int .i64 (parE (way) (w1) (l2) (l3) (b))) rfl rfl (y_extract (vs := #[.agg (bv (parB (way) (w1) (l2) (l3) (b))), .int .i64 (parE (way) (w1) (l2) (l3) (b))]) rfl rfl) ?_
  refine o_alloc (z := .agg (bv (zB))) rfl z35 fun g2 => ?_
  refine o_storeB (H' := [(g2, .cells (bv (parB (way) (w1) (l2) (l3) (b))) 35 (0, 0)), (g1, .cells (bv (b)) 35 (0, 0))]) T35 0 rfl rfl rfl rfl ?_
  refine o_y (v := .int .i64 (parE (way) (w1) (l2) (l3) (b))) rfl rfl (y_assign rfl) ?_
  refine o_nil ?_
  refine hK2 _ _ ?_
  refine c_seq fun K3 hK3 => ?_
  refine c_region ?_
  refine o_y (v := .int .u8 (way)) rfl rfl (y_move rfl) ?_
  refine o_y (v := .slice (a1) ((w1).length) (cap1)) rfl rfl (y_move rfl) ?_
  refine o_y (v := .slice (a2) ((l2).length) (cap2)) rfl rfl (y_move rfl) ?_
  refine o_y (v := .slice (a3) ((l3).length) (cap3)) rfl rfl (y_move rfl) ?_
  refine o_y (v := .agg (bv (b))) rfl rfl (y_loadB T35 rfl (Rd.whole (k := 1) rfl)) ?_
  refine o_y (v := .tuple #[.agg (bv (parB (way) (w1) (l2) (l3) (b))), .int .i64 (parE (way) (w1) (l2) (l3) (b))]) rfl rfl (y_call (vs := [.int .u8 (way), .slice (a1) ((w1).length) (cap1), .slice (a2) ((l2).length) (cap2), .slice (a3) ((l3).length) (cap3), .agg (bv (b))]) b13 rfl (fun w hw => f13_rParity (way) (w1) _ _ _ _ _ (l2) _ _ _ _ _ (l3) _ _ _ _ _ (b) w (by first | rfl | omega | (simp; done) | (simp; omega)) ((SlG.old hs1 (fun _ h => h)) w hw) (by first | rfl | omega | (simp; done) | (simp; omega)) ((SlG.old hs2 (fun _ h => h)) w hw) (by first | rfl | omega | (simp; done) | (simp; omega)) ((SlG.old hs3 (fun _ h => h)) w hw))) ?_
  refine o_y (v := .tuple #[.agg (bv (parB (way) (w1) (l2) (l3) (b))), .int .i64 (parE (way) (w1) (l2) (l3) (b))]) rfl rfl (y_move rfl) ?_
  refine o_y (v := .agg (bv (parB (way) (w1) (l2) (l3) (b)))) rfl rfl (y_extract (vs := #[.agg (bv (parB (way) (w1) (l2) (l3) (b))), .int .i64 (parE (way) (w1) (l2) (l3) (b))]) rfl rfl) ?_
  refine o_y (v := .int .i64 (parE (way) (w1) (l2) (l3) (b))) rfl rfl (y_extract (vs := #[.agg (bv (parB (way) (w1) (l2) (l3) (b))), .int .i64 (parE (way) (w1) (l2) (l3) (b))]) rfl rfl) ?_
  refine o_alloc (z := .agg (bv (zB))) rfl z35 fun g3 => ?_
  refine o_storeB (H' := [(g3, .cells (bv (parB (way) (w1) (l2) (l3) (b))) 35 (0, 0)), (g2, .cells (bv (parB (way) (w1) (l2) (l3) (b))) 35 (0, 0)), (g1, .cells (bv (b)) 35 (0, 0))]) T35 0 rfl rfl rfl rfl ?_
  refine o_y (v := .int .i64 (parE (way) (w1) (l2) (l3) (b))) rfl rfl (y_assign rfl) ?_
  refine o_nil ?_
  refine hK3 _ _ ?_
  refine c_seq fun K4 hK4 => ?_
  refine c_region ?_
  refine o_y (v := .agg (bv (parB (way) (w1) (l2) (l3) (b)))) rfl rfl (y_loadB T35 rfl (Rd.whole (k := 1) rfl)) ?_
  refine o_y (v := .agg (bv (parB (way) (w1) (l2) (l3) (b)))) rfl rfl (y_loadB T35 rfl (Rd.whole (k := 0) rfl)) ?_
  refine o_y (v := .bool (true)) rfl rfl (y_bool (y_eqlV T35 rfl rfl) (by simp)) ?_
  refine o_y (v := .bool (true)) rfl rfl (y_move rfl) ?_
  refine o_guard (j := 3) (d := 36) (b := true) rfl rfl rfl (fun _ => ?_) rfl (fun h => by cases h)
  refine o_y (v := .int .i64 (parE (way) (w1) (l2) (l3) (b))) rfl rfl (y_move rfl) ?_
  refine o_guard (j := 3) (d := 36) (b := true) rfl rfl rfl (fun _ => ?_) rfl (fun h => by cases h)
  refine o_y (v := .int .i64 (parE (way) (w1) (l2) (l3) (b))) rfl rfl (y_move rfl) ?_
  refine o_guard (j := 3) (d := 36) (b := true) rfl rfl rfl (fun _ => ?_) rfl (fun h => by cases h)
  refine o_y (v := .bool (true)) rfl rfl (y_bool (y_eql rfl rfl rfl) (by simp)) ?_
  refine o_y (v := .bool (true)) rfl rfl (y_pick (b := true) rfl rfl) ?_
  refine o_y (v := .bool (true)) rfl rfl (y_move rfl) ?_
  refine o_guard (j := 8) (d := 41) (b := true) rfl rfl rfl (fun _ => ?_) rfl (fun h => by cases h)
  refine o_y (v := .bool (true)) rfl rfl (y_call (vs := []) b11 rfl (fun w hw => f11_lives w)) ?_
  refine o_y (v := .bool (true)) rfl rfl (y_pick (b := true) rfl rfl) ?_
  refine o_y (v := .bool (true)) rfl rfl (y_assign rfl) ?_
  refine o_nil ?_
  refine hK4 _ _ ?_
  refine c_ret ?_
  refine fun w hw => ⟨[.bool (true)], ⟨rfl, trivial⟩, ?_⟩
  exact rfl

set_option maxRecDepth 100000 in
set_option maxHeartbeats 4000000 in
theorem f7_PlanSame (w1 : List Bool) (a1 : Option Addr) (b1 o1 cap1 m1 : Nat) (l2 : List Blk) (a2 : Option Addr) (b2 o2 cap2 m2 : Nat) (l3 : List Blk) (a3 : Option Addr) (b3 o3 cap3 m3 : Nat) (w : World) (hm1 : m1 = w1.length) (hs1 : Sl eBool w w1 a1 b1 o1 cap1) (hm2 : m2 = l2.length) (hs2 : Sl eBlk w l2 a2 b2 o2 cap2) (hm3 : m3 = l3.length) (hs3 : Sl eBlk w l3 a3 b3 o3 cap3) :
    Calls Try.prog 7 [.slice (a1) (m1) (cap1), .slice (a2) (m2) (cap2), .slice (a3) (m3) (cap3)].toArray w fun e w' => e = .returned (.bool (true)) ∧ Below w.heap.size w w' := by
  subst hm1
  subst hm2
  subst hm3
  have hle1 := hs1.le
  have hle2 := hs2.le
  have hle3 := hs3.le
  have hmx1 := hs1.mx
  have hmx2 := hs2.mx
  have hmx3 := hs3.mx
  simp only [maxLen] at hmx1 hmx2 hmx3
  have hcut := cutN_le w1 l2 l3
  have hcw := cW_len w1 l2 l3
  have hco := cO_len w1 l2 l3
  have hcn := cN_len w1 l2 l3
  refine (calls_of (P := Try.prog) (n := 119) (w0 := w) (S := fun _ => False) (H := []) (T := fun v _ => v = (.bool (true))) Try.func7 rfl Try.ntmps7 (Nat.le_of_ble_eq_true rfl) [.tmp 6] rfl (St.nil w _) ?_).mono fun e w' ⟨v, H', he, hs, hT⟩ => ⟨by rw [he, hT], hs.below⟩
  refine c_seq fun K1 hK1 => ?_
  refine c_region ?_
  refine o_y (v := .bool (false)) rfl rfl (y_assign rfl) ?_
  refine o_nil ?_
  refine hK1 _ _ ?_
  refine c_seq fun K2 hK2 => ?_
  refine c_region ?_
  refine o_y (v := .slice (a1) ((w1).length) (cap1)) rfl rfl (y_move rfl) ?_
  refine o_y (v := .slice (a2) ((l2).length) (cap2)) rfl rfl (y_move rfl) ?_
  refine o_y (v := .slice (a3) ((l3).length) (cap3)) rfl rfl (y_move rfl) ?_
  refine o_y (v := .tuple #[.slice (a1) (cutN w1 l2 l3) (cap1), .slice (a2) (cutN w1 l2 l3) (cap2), .slice (a3) (cutN w1 l2 l3) (cap3)]) rfl rfl (y_call (vs := [.slice (a1) ((w1).length) (cap1), .slice (a2) ((l2).length) (cap2), .slice (a3) ((l3).length) (cap3)]) b14 rfl (fun w hw => f14_cut _ _ _ _ _ _ _ _ _ _ _ _ _ _ _ _ _ _ w (by first | rfl | omega | (simp; done) | (simp; omega)) ((SlG.old hs1 (fun _ h => h)) w hw) (by first | rfl | omega | (simp; done) | (simp; omega)) ((SlG.old hs2 (fun _ h => h)) w hw) (by first | rfl | omega | (simp; done) | (simp; omega)) ((SlG.old hs3 (fun _ h => h)) w hw))) ?_
  refine o_y (v := .tuple #[.slice (a1) (cutN w1 l2 l3) (cap1), .slice (a2) (cutN w1 l2 l3) (cap2), .slice (a3) (cutN w1 l2 l3) (cap3)]) rfl rfl (y_move rfl) ?_
  refine o_y (v := .slice (a1) (cutN w1 l2 l3) (cap1)) rfl rfl (y_extract (vs := #[.slice (a1) (cutN w1 l2 l3) (cap1), .slice (a2) (cutN w1 l2 l3) (cap2), .slice (a3) (cutN w1 l2 l3) (cap3)]) rfl rfl) ?_
  refine o_y (v := .slice (a2) (cutN w1 l2 l3) (cap2)) rfl rfl (y_extract (vs := #[.slice (a1) (cutN w1 l2 l3) (cap1), .slice (a2) (cutN w1 l2 l3) (cap2), .slice (a3) (cutN w1 l2 l3) (cap3)]) rfl rfl) ?_
  refine o_y (v := .slice (a3) (cutN w1 l2 l3) (cap3)) rfl rfl (y_extract (vs := #[.slice (a1) (cutN w1 l2 l3) (cap1), .slice (a2) (cutN w1 l2 l3) (cap2), .slice (a3) (cutN w1 l2 l3) (cap3)]) rfl rfl) ?_
  refine o_y (v := .slice (a1) (cutN w1 l2 l3) (cap1)) rfl rfl (y_assign rfl) ?_
  refine o_y (v := .slice (a2) (cutN w1 l2 l3) (cap2)) rfl rfl (y_assign rfl) ?_
  refine o_y (v := .slice (a3) (cutN w1 l2 l3) (cap3)) rfl rfl (y_assign rfl) ?_
  refine o_nil ?_
  refine hK2 _ _ ?_
  refine c_seq fun K3 hK3 => ?_
  refine c_seq fun K4 hK4 => ?_
  refine c_region ?_
  refine o_y (v := .slice (a1) (cutN w1 l2 l3) (cap1)) rfl rfl (y_move rfl) ?_
  refine o_y (v := .int .i64 (((cutN w1 l2 l3 : Nat) : Int))) rfl rfl (y_len rfl Try.underlying22) ?_
  refine o_y (v := .bool (decide (((cutN w1 l2 l3 : Nat) : Int) < 2))) rfl rfl (y_lss rfl rfl rfl) ?_
  refine o_nil ?_
  refine hK4 _ _ ?_
  refine c_cond (t := decide (((cutN w1 l2 l3 : Nat) : Int) < 2)) rfl (fun hc1 => ?_) (fun hc1 => ?_)
  ·
    replace hc1 := of_decide_eq_true hc1
    -- way T
    refine c_seq fun K5 hK5 => ?_
    refine c_region ?_
    refine o_y (v := .bool (true)) rfl rfl (y_call (vs := []) b11 rfl (fun w hw => f11_lives w)) ?_
    refine o_y (v := .bool (true)) rfl rfl (y_assign rfl) ?_
    refine o_nil ?_
    refine hK5 _ _ ?_
    refine c_ret ?_
    refine fun w hw => ⟨[.bool (true)], ⟨rfl, trivial⟩, ?_⟩
    exact rfl
  ·
    replace hc1 := of_decide_eq_false hc1
    -- way F
    refine c_skip ?_
    refine hK3 _ _ ?_
    refine c_seq fun K6 hK6 => ?_
    refine c_region ?_
    refine o_y (v := .bool (true)) rfl rfl (y_assign rfl) ?_
    refine o_nil ?_
    refine hK6 _ _ ?_
    refine c_seq fun K7 hK7 => ?_
    refine c_region ?_
    refine o_y (v := .slice none 0 0) rfl rfl (y_assign rfl) ?_
    refine o_nil ?_
    refine hK7 _ _ ?_
    refine c_seq fun K8 hK8 => ?_
    refine c_seq fun K9 hK9 => ?_
    refine c_region ?_
    refine o_y (v := .int .i64 (0)) rfl rfl (y_assign rfl) ?_
    refine o_nil ?_
    refine hK9 _ _ ?_
    refine c_block ?_
    refine c_loop (fun d R H => ∃ (j : Nat) (a : Option Addr) (g : Nat) (cap : Nat) (Hx : Hp), d = cutN w1 l2 l3 - (j) ∧ (j ≤ cutN w1 l2 l3) ∧ (OwnV eBlk 35 (mixL (cW w1 l2 l3) (cO w1 l2 l3) (cN w1 l2 l3) (j)) a g cap Hx) ∧ R 0 = .slice (a1) (cutN w1 l2 l3) (cap1) ∧ R 1 = .slice (a2) (cutN w1 l2 l3) (cap2) ∧ R 2 = .slice (a3) (cutN w1 l2 l3) (cap3) ∧ R 7 = .bool (allT (cW w1 l2 l3) (j)) ∧ R 9 = .int .i64 (((j : Nat) : Int)) ∧ R 8 = .slice (a) ((mixL (cW w1 l2 l3) (cO w1 l2 l3) (cN w1 l2 l3) (j)).length) (cap) ∧ H = ((Hx) : Hp)) (cutN w1 l2 l3 - (0)) ?_ ?_
    ·
      refine ⟨0, none, 0, 0, [], rfl, by omega, OwnV.none', rfl, rfl, rfl, rfl, (ie (a := 0) (b := ((0 : Nat) : Int)) (by omega)), rfl, ?_⟩
      simp [Value.cells]; first | done | rfl
    ·
      rintro d1 R1 Hx ⟨j, a, g, cap, _, hd1, hv1_0, hv1_1, h1_0, h1_1, h1_2, h1_7, h1_9, h1_8, rfl⟩
      have hsl := mixL_len (cW w1 l2 l3) (cO w1 l2 l3) (cN w1 l2 l3) j
      have hol := hv1_1.le
      have hom := hv1_1.mx
      simp only [maxLen] at hom
      refine c_seq fun K10 hK10 => ?_
      refine c_seq fun K11 hK11 => ?_
      refine c_region ?_
      refine o_y (v := .int .i64 (((j : Nat) : Int))) rfl rfl (y_move h1_9) ?_
      refine o_y (v := .slice (a1) (cutN w1 l2 l3) (cap1)) rfl rfl (y_move h1_0) ?_
      refine o_y (v := .int .i64 (((cutN w1 l2 l3 : Nat) : Int))) rfl rfl (y_len rfl Try.underlying22) ?_
      refine o_y (v := .bool (decide (((j : Nat) : Int) < ((cutN w1 l2 l3 : Nat) : Int)))) rfl rfl (y_lss rfl rfl rfl) ?_
      refine o_nil ?_
      refine hK11 _ _ ?_
      refine c_cond (t := decide (((j : Nat) : Int) < ((cutN w1 l2 l3 : Nat) : Int))) rfl (fun hc2 => ?_) (fun hc2 => ?_)
      ·
        replace hc2 := of_decide_eq_true hc2
        -- way FLT
        refine c_skip ?_
        refine hK10 _ _ ?_
        refine c_seq fun K12 hK12 => ?_
        refine c_block ?_
        refine c_seq fun K13 hK13 => ?_
        refine c_region ?_
        refine o_y (v := .bool (allT (cW w1 l2 l3) (j))) rfl rfl (y_move h1_7) ?_
        refine o_y (v := .bool (allT (cW w1 l2 l3) (j))) rfl rfl (y_move rfl) ?_
        cases hc3 : (allT (cW w1 l2 l3) (j) : Bool)
        ·
          -- way FLTF
          refine o_guard (j := 1) (d := 36) (b := false) rfl rfl rfl (fun h => by cases h) rfl (fun _ => ?_)
          refine o_guard (j := 1) (d := 36) (b := false) rfl rfl rfl (fun h => by cases h) rfl (fun _ => ?_)
          refine o_guard (j := 1) (d := 36) (b := false) rfl rfl rfl (fun h => by cases h) rfl (fun _ => ?_)
          refine o_guard (j := 1) (d := 36) (b := false) rfl rfl rfl (fun h => by cases h) rfl (fun _ => ?_)
          refine o_y (v := .bool (false)) rfl rfl (y_pick (b := false) rfl rfl) ?_
          refine o_y (v := .bool (false)) rfl rfl (y_assign rfl) ?_
          refine o_nil ?_
          refine hK13 _ _ ?_
          refine c_seq fun K14 hK14 => ?_
          refine c_region ?_
          refine o_y (v := .slice (a1) (cutN w1 l2 l3) (cap1)) rfl rfl (y_move h1_0) ?_
          refine o_y (v := .int .i64 (((j : Nat) : Int))) rfl rfl (y_move h1_9) ?_
          refine o_y (v := .pointer (some ⟨b1, o1 + j * 1, none⟩)) rfl rfl (y_ixO j (hs1.at_ (by omega)) rfl rfl Try.underlying22 s4 (by omega) (by first | omega | (simp; done) | (simp; omega))) ?_
          refine o_y (v := .bool (((cW w1 l2 l3))[j]'(by first | omega | (simp; done) | (simp; omega)))) rfl rfl (y_load rfl Try.underlying4 rfl (SlG.rd (SlG.first (SlG.old hs1 (fun _ h => h)) (cutN w1 l2 l3)) j (by first | omega | (simp; done) | (simp; omega)))) ?_
          refine o_nil ?_
          refine hK14 _ _ ?_
          refine c_cond (t := ((cW w1 l2 l3))[j]'(by first | omega | (simp; done) | (simp; omega))) rfl (fun hc4 => ?_) (fun hc4 => ?_)
          ·
            -- way FLTFT
            refine c_region ?_
            refine o_y (v := .slice (a) ((mixL (cW w1 l2 l3) (cO w1 l2 l3) (cN w1 l2 l3) (j)).length) (cap)) rfl rfl (y_move h1_8) ?_
            refine o_y (v := .slice (a3) (cutN w1 l2 l3) (cap3)) rfl rfl (y_move h1_2) ?_
            refine o_y (v := .int .i64 (((j : Nat) : Int))) rfl rfl (y_move h1_9) ?_
            refine o_y (v := .pointer (some ⟨b3, o3 + j * 64, none⟩)) rfl rfl (y_ixO j (hs3.at_ (by omega)) rfl rfl Try.underlying33 s35 (by omega) (by first | omega | (simp; done) | (simp; omega))) ?_
            refine o_y (v := .agg (bv (((cN w1 l2 l3))[j]'(by first | omega | (simp; done) | (simp; omega))))) rfl rfl (y_loadB T35 rfl (SlG.rd (SlG.first (SlG.old hs3 (fun _ h => h)) (cutN w1 l2 l3)) j (by first | omega | (simp; done) | (simp; omega)))) ?_
            refine o_buildRow SL33 ([((cN w1 l2 l3))[j]'(by first | omega | (simp; done) | (simp; omega))] : List Blk) (fun x => .agg (bv x)) (fun _ => rfl) rfl rfl (by rw [Array.toList_map]; rfl) (by simp) (by simp [eBlk]) fun g1 cg1 hrg1 => ?_
            refine o_appendV SL33 ([(g1, .cells (cg1) 35 (0, 0))]) (fun Hy => [(g1, .cells (cg1) 35 (0, 0))] ++ (Hy)) rfl (fun Hy => by have h := List.perm_append_comm (l₁ := ([(g1, .cells (cg1) 35 (0, 0))] : Hp)) (l₂ := Hy); first | exact h | simpa [Value.cells] using h) (by have h := List.perm_append_comm_assoc ([(g1, .cells (cg1) 35 (0, 0))] : Hp) Hx ([] : Hp); first | exact h | simpa [Value.cells] using h) hv1_1 rfl (by first | omega | (simp; done) | (simp; omega)) rfl (by first | omega | (simp; done) | (simp; omega)) (SlG.row (k := 0) rfl hrg1) (by simp only [maxLen] <;> first | omega | (simp; done) | (simp; omega)) (by first | omega | (simp; done) | (simp; omega)) fun ap3 gp3 capp3 Hp3 hvp3 => ?_
            have hqp3 := mixL_t (o := (cO w1 l2 l3)) (n := (cN w1 l2 l3)) (j := j) (w := (cW w1 l2 l3)) (by omega) (by omega) (by assumption)
            have hwp3 := hvp3
            rw [show (mixL (cW w1 l2 l3) (cO w1 l2 l3) (cN w1 l2 l3) (j)) ++ ([((cN w1 l2 l3))[j]'(by first | omega | (simp; done) | (simp; omega))]) = mixL (cW w1 l2 l3) (cO w1 l2 l3) (cN w1 l2 l3) (j + 1) from hqp3] at hwp3
            refine o_y (v := .slice (ap3) (((mixL (cW w1 l2 l3) (cO w1 l2 l3) (cN w1 l2 l3) (j)).length) + 1) (capp3)) rfl rfl (y_assign rfl) ?_
            refine o_nil ?_
            refine hK12 _ _ ?_
            refine c_region ?_
            refine o_y (v := .int .i64 (((j : Nat) : Int))) rfl rfl (y_move h1_9) ?_
            refine o_y (v := .int .i64 ((((j : Nat) : Int)) + 1)) rfl rfl (y_add rfl rfl (wi_i64 (by omega) (by omega))) ?_
            refine o_y (v := .int .i64 ((((j : Nat) : Int)) + 1)) rfl rfl (y_assign rfl) ?_
            refine o_forget (H' := (Hp3)) ((List.Sublist.refl _).cons _) ?_
            refine o_nil ?_
            refine ⟨_, by omega, j + 1, ap3, gp3, capp3, Hp3, rfl, by omega, hwp3, h1_0, h1_1, h1_2, (congrArg Value.bool (allT_f hc3)), (ie (a := (((j : Nat) : Int)) + 1) (b := ((j + 1 : Nat) : Int)) (by omega)), (len_eq (by have h := congrArg List.length hqp3; simpa using h)), rfl⟩
          ·
            -- way FLTFF
            refine c_region ?_
            refine o_y (v := .slice (a) ((mixL (cW w1 l2 l3) (cO w1 l2 l3) (cN w1 l2 l3) (j)).length) (cap)) rfl rfl (y_move h1_8) ?_
            refine o_y (v := .slice (a2) (cutN w1 l2 l3) (cap2)) rfl rfl (y_move h1_1) ?_
            refine o_y (v := .int .i64 (((j : Nat) : Int))) rfl rfl (y_move h1_9) ?_
            refine o_y (v := .pointer (some ⟨b2, o2 + j * 64, none⟩)) rfl rfl (y_ixO j (hs2.at_ (by omega)) rfl rfl Try.underlying33 s35 (by omega) (by first | omega | (simp; done) | (simp; omega))) ?_
            refine o_y (v := .agg (bv (((cO w1 l2 l3))[j]'(by first | omega | (simp; done) | (simp; omega))))) rfl rfl (y_loadB T35 rfl (SlG.rd (SlG.first (SlG.old hs2 (fun _ h => h)) (cutN w1 l2 l3)) j (by first | omega | (simp; done) | (simp; omega)))) ?_
            refine o_buildRow SL33 ([((cO w1 l2 l3))[j]'(by first | omega | (simp; done) | (simp; omega))] : List Blk) (fun x => .agg (bv x)) (fun _ => rfl) rfl rfl (by rw [Array.toList_map]; rfl) (by simp) (by simp [eBlk]) fun g4 cg4 hrg4 => ?_
            refine o_appendV SL33 ([(g4, .cells (cg4) 35 (0, 0))]) (fun Hy => [(g4, .cells (cg4) 35 (0, 0))] ++ (Hy)) rfl (fun Hy => by have h := List.perm_append_comm (l₁ := ([(g4, .cells (cg4) 35 (0, 0))] : Hp)) (l₂ := Hy); first | exact h | simpa [Value.cells] using h) (by have h := List.perm_append_comm_assoc ([(g4, .cells (cg4) 35 (0, 0))] : Hp) Hx ([] : Hp); first | exact h | simpa [Value.cells] using h) hv1_1 rfl (by first | omega | (simp; done) | (simp; omega)) rfl (by first | omega | (simp; done) | (simp; omega)) (SlG.row (k := 0) rfl hrg4) (by simp only [maxLen] <;> first | omega | (simp; done) | (simp; omega)) (by first | omega | (simp; done) | (simp; omega)) fun ap6 gp6 capp6 Hp6 hvp6 => ?_
            have hqp6 := mixL_f (o := (cO w1 l2 l3)) (n := (cN w1 l2 l3)) (j := j) (w := (cW w1 l2 l3)) (by omega) (by omega) (by assumption)
            have hwp6 := hvp6
            rw [show (mixL (cW w1 l2 l3) (cO w1 l2 l3) (cN w1 l2 l3) (j)) ++ ([((cO w1 l2 l3))[j]'(by first | omega | (simp; done) | (simp; omega))]) = mixL (cW w1 l2 l3) (cO w1 l2 l3) (cN w1 l2 l3) (j + 1) from hqp6] at hwp6
            refine o_y (v := .slice (ap6) (((mixL (cW w1 l2 l3) (cO w1 l2 l3) (cN w1 l2 l3) (j)).length) + 1) (capp6)) rfl rfl (y_assign rfl) ?_
            refine o_nil ?_
            refine hK12 _ _ ?_
            refine c_region ?_
            refine o_y (v := .int .i64 (((j : Nat) : Int))) rfl rfl (y_move h1_9) ?_
            refine o_y (v := .int .i64 ((((j : Nat) : Int)) + 1)) rfl rfl (y_add rfl rfl (wi_i64 (by omega) (by omega))) ?_
            refine o_y (v := .int .i64 ((((j : Nat) : Int)) + 1)) rfl rfl (y_assign rfl) ?_
            refine o_forget (H' := (Hp6)) ((List.Sublist.refl _).cons _) ?_
            refine o_nil ?_
            refine ⟨_, by omega, j + 1, ap6, gp6, capp6, Hp6, rfl, by omega, hwp6, h1_0, h1_1, h1_2, (congrArg Value.bool (allT_f hc3)), (ie (a := (((j : Nat) : Int)) + 1) (b := ((j + 1 : Nat) : Int)) (by omega)), (len_eq (by have h := congrArg List.length hqp6; simpa using h)), rfl⟩
        ·
          -- way FLTT
          refine o_guard (j := 1) (d := 36) (b := true) rfl rfl rfl (fun _ => ?_) rfl (fun h => by cases h)
          refine o_y (v := .slice (a1) (cutN w1 l2 l3) (cap1)) rfl rfl (y_move h1_0) ?_
          refine o_guard (j := 1) (d := 36) (b := true) rfl rfl rfl (fun _ => ?_) rfl (fun h => by cases h)
          refine o_y (v := .int .i64 (((j : Nat) : Int))) rfl rfl (y_move h1_9) ?_
          refine o_guard (j := 1) (d := 36) (b := true) rfl rfl rfl (fun _ => ?_) rfl (fun h => by cases h)
          refine o_y (v := .pointer (some ⟨b1, o1 + j * 1, none⟩)) rfl rfl (y_ixO j (hs1.at_ (by omega)) rfl rfl Try.underlying22 s4 (by omega) (by first | omega | (simp; done) | (simp; omega))) ?_
          refine o_guard (j := 1) (d := 36) (b := true) rfl rfl rfl (fun _ => ?_) rfl (fun h => by cases h)
          refine o_y (v := .bool (((cW w1 l2 l3))[j]'(by first | omega | (simp; done) | (simp; omega)))) rfl rfl (y_load rfl Try.underlying4 rfl (SlG.rd (SlG.first (SlG.old hs1 (fun _ h => h)) (cutN w1 l2 l3)) j (by first | omega | (simp; done) | (simp; omega)))) ?_
          refine o_y (v := .bool (((cW w1 l2 l3))[j]'(by first | omega | (simp; done) | (simp; omega)))) rfl rfl (y_pick (b := true) rfl rfl) ?_
          refine o_y (v := .bool (((cW w1 l2 l3))[j]'(by first | omega | (simp; done) | (simp; omega)))) rfl rfl (y_assign rfl) ?_
          refine o_nil ?_
          refine hK13 _ _ ?_
          refine c_seq fun K15 hK15 => ?_
          refine c_region ?_
          refine o_y (v := .slice (a1) (cutN w1 l2 l3) (cap1)) rfl rfl (y_move h1_0) ?_
          refine o_y (v := .int .i64 (((j : Nat) : Int))) rfl rfl (y_move h1_9) ?_
          refine o_y (v := .pointer (some ⟨b1, o1 + j * 1, none⟩)) rfl rfl (y_ixO j (hs1.at_ (by omega)) rfl rfl Try.underlying22 s4 (by omega) (by first | omega | (simp; done) | (simp; omega))) ?_
          refine o_y (v := .bool (((cW w1 l2 l3))[j]'(by first | omega | (simp; done) | (simp; omega)))) rfl rfl (y_load rfl Try.underlying4 rfl (SlG.rd (SlG.first (SlG.old hs1 (fun _ h => h)) (cutN w1 l2 l3)) j (by first | omega | (simp; done) | (simp; omega)))) ?_
          refine o_nil ?_
          refine hK15 _ _ ?_
          refine c_cond (t := ((cW w1 l2 l3))[j]'(by first | omega | (simp; done) | (simp; omega))) rfl (fun hc7 => ?_) (fun hc7 => ?_)
          ·
            -- way FLTTT
            refine c_region ?_
            refine o_y (v := .slice (a) ((mixL (cW w1 l2 l3) (cO w1 l2 l3) (cN w1 l2 l3) (j)).length) (cap)) rfl rfl (y_move h1_8) ?_
            refine o_y (v := .slice (a3) (cutN w1 l2 l3) (cap3)) rfl rfl (y_move h1_2) ?_
            refine o_y (v := .int .i64 (((j : Nat) : Int))) rfl rfl (y_move h1_9) ?_
            refine o_y (v := .pointer (some ⟨b3, o3 + j * 64, none⟩)) rfl rfl (y_ixO j (hs3.at_ (by omega)) rfl rfl Try.underlying33 s35 (by omega) (by first | omega | (simp; done) | (simp; omega))) ?_
            refine o_y (v := .agg (bv (((cN w1 l2 l3))[j]'(by first | omega | (simp; done) | (simp; omega))))) rfl rfl (y_loadB T35 rfl (SlG.rd (SlG.first (SlG.old hs3 (fun _ h => h)) (cutN w1 l2 l3)) j (by first | omega | (simp; done) | (simp; omega)))) ?_
            refine o_buildRow SL33 ([((cN w1 l2 l3))[j]'(by first | omega | (simp; done) | (simp; omega))] : List Blk) (fun x => .agg (bv x)) (fun _ => rfl) rfl rfl (by rw [Array.toList_map]; rfl) (by simp) (by simp [eBlk]) fun g7 cg7 hrg7 => ?_
            refine o_appendV SL33 ([(g7, .cells (cg7) 35 (0, 0))]) (fun Hy => [(g7, .cells (cg7) 35 (0, 0))] ++ (Hy)) rfl (fun Hy => by have h := List.perm_append_comm (l₁ := ([(g7, .cells (cg7) 35 (0, 0))] : Hp)) (l₂ := Hy); first | exact h | simpa [Value.cells] using h) (by have h := List.perm_append_comm_assoc ([(g7, .cells (cg7) 35 (0, 0))] : Hp) Hx ([] : Hp); first | exact h | simpa [Value.cells] using h) hv1_1 rfl (by first | omega | (simp; done) | (simp; omega)) rfl (by first | omega | (simp; done) | (simp; omega)) (SlG.row (k := 0) rfl hrg7) (by simp only [maxLen] <;> first | omega | (simp; done) | (simp; omega)) (by first | omega | (simp; done) | (simp; omega)) fun ap9 gp9 capp9 Hp9 hvp9 => ?_
            have hqp9 := mixL_t (o := (cO w1 l2 l3)) (n := (cN w1 l2 l3)) (j := j) (w := (cW w1 l2 l3)) (by omega) (by omega) (by assumption)
            have hwp9 := hvp9
            rw [show (mixL (cW w1 l2 l3) (cO w1 l2 l3) (cN w1 l2 l3) (j)) ++ ([((cN w1 l2 l3))[j]'(by first | omega | (simp; done) | (simp; omega))]) = mixL (cW w1 l2 l3) (cO w1 l2 l3) (cN w1 l2 l3) (j + 1) from hqp9] at hwp9
            refine o_y (v := .slice (ap9) (((mixL (cW w1 l2 l3) (cO w1 l2 l3) (cN w1 l2 l3) (j)).length) + 1) (capp9)) rfl rfl (y_assign rfl) ?_
            refine o_nil ?_
            refine hK12 _ _ ?_
            refine c_region ?_
            refine o_y (v := .int .i64 (((j : Nat) : Int))) rfl rfl (y_move h1_9) ?_
            refine o_y (v := .int .i64 ((((j : Nat) : Int)) + 1)) rfl rfl (y_add rfl rfl (wi_i64 (by omega) (by omega))) ?_
            refine o_y (v := .int .i64 ((((j : Nat) : Int)) + 1)) rfl rfl (y_assign rfl) ?_
            refine o_forget (H' := (Hp9)) ((List.Sublist.refl _).cons _) ?_
            refine o_nil ?_
            refine ⟨_, by omega, j + 1, ap9, gp9, capp9, Hp9, rfl, by omega, hwp9, h1_0, h1_1, h1_2, (congrArg Value.bool (allT_t hc3 (by omega))), (ie (a := (((j : Nat) : Int)) + 1) (b := ((j + 1 : Nat) : Int)) (by omega)), (len_eq (by have h := congrArg List.length hqp9; simpa using h)), rfl⟩
          ·
            -- way FLTTF
            refine c_region ?_
            refine o_y (v := .slice (a) ((mixL (cW w1 l2 l3) (cO w1 l2 l3) (cN w1 l2 l3) (j)).length) (cap)) rfl rfl (y_move h1_8) ?_
            refine o_y (v := .slice (a2) (cutN w1 l2 l3) (cap2)) rfl rfl (y_move h1_1) ?_
            refine o_y (v := .int .i64 (((j : Nat) : Int))) rfl rfl (y_move h1_9) ?_
            refine o_y (v := .pointer (some ⟨b2, o2 + j * 64, none⟩)) rfl rfl (y_ixO j (hs2.at_ (by omega)) rfl rfl Try.underlying33 s35 (by omega) (by first | omega | (simp; done) | (simp; omega))) ?_
            refine o_y (v := .agg (bv (((cO w1 l2 l3))[j]'(by first | omega | (simp; done) | (simp; omega))))) rfl rfl (y_loadB T35 rfl (SlG.rd (SlG.first (SlG.old hs2 (fun _ h => h)) (cutN w1 l2 l3)) j (by first | omega | (simp; done) | (simp; omega)))) ?_
            refine o_buildRow SL33 ([((cO w1 l2 l3))[j]'(by first | omega | (simp; done) | (simp; omega))] : List Blk) (fun x => .agg (bv x)) (fun _ => rfl) rfl rfl (by rw [Array.toList_map]; rfl) (by simp) (by simp [eBlk]) fun g10 cg10 hrg10 => ?_
            refine o_appendV SL33 ([(g10, .cells (cg10) 35 (0, 0))]) (fun Hy => [(g10, .cells (cg10) 35 (0, 0))] ++ (Hy)) rfl (fun Hy => by have h := List.perm_append_comm (l₁ := ([(g10, .cells (cg10) 35 (0, 0))] : Hp)) (l₂ := Hy); first | exact h | simpa [Value.cells] using h) (by have h := List.perm_append_comm_assoc ([(g10, .cells (cg10) 35 (0, 0))] : Hp) Hx ([] : Hp); first | exact h | simpa [Value.cells] using h) hv1_1 rfl (by first | omega | (simp; done) | (simp; omega)) rfl (by first | omega | (simp; done) | (simp; omega)) (SlG.row (k := 0) rfl hrg10) (by simp only [maxLen] <;> first | omega | (simp; done) | (simp; omega)) (by first | omega | (simp; done) | (simp; omega)) fun ap12 gp12 capp12 Hp12 hvp12 => ?_
            have hqp12 := mixL_f (o := (cO w1 l2 l3)) (n := (cN w1 l2 l3)) (j := j) (w := (cW w1 l2 l3)) (by omega) (by omega) (by assumption)
            have hwp12 := hvp12
            rw [show (mixL (cW w1 l2 l3) (cO w1 l2 l3) (cN w1 l2 l3) (j)) ++ ([((cO w1 l2 l3))[j]'(by first | omega | (simp; done) | (simp; omega))]) = mixL (cW w1 l2 l3) (cO w1 l2 l3) (cN w1 l2 l3) (j + 1) from hqp12] at hwp12
            refine o_y (v := .slice (ap12) (((mixL (cW w1 l2 l3) (cO w1 l2 l3) (cN w1 l2 l3) (j)).length) + 1) (capp12)) rfl rfl (y_assign rfl) ?_
            refine o_nil ?_
            refine hK12 _ _ ?_
            refine c_region ?_
            refine o_y (v := .int .i64 (((j : Nat) : Int))) rfl rfl (y_move h1_9) ?_
            refine o_y (v := .int .i64 ((((j : Nat) : Int)) + 1)) rfl rfl (y_add rfl rfl (wi_i64 (by omega) (by omega))) ?_
            refine o_y (v := .int .i64 ((((j : Nat) : Int)) + 1)) rfl rfl (y_assign rfl) ?_
            refine o_forget (H' := (Hp12)) ((List.Sublist.refl _).cons _) ?_
            refine o_nil ?_
            refine ⟨_, by omega, j + 1, ap12, gp12, capp12, Hp12, rfl, by omega, hwp12, h1_0, h1_1, h1_2, (congrArg Value.bool (allT_t hc3 (by omega))), (ie (a := (((j : Nat) : Int)) + 1) (b := ((j + 1 : Nat) : Int)) (by omega)), (len_eq (by have h := congrArg List.length hqp12; simpa using h)), rfl⟩
      ·
        replace hc2 := of_decide_eq_false hc2
        -- way FLF
        have hjj : j = cutN w1 l2 l3 := by omega
        have hnb : ¬ badP (cW w1 l2 l3) (cO w1 l2 l3) (cN w1 l2 l3) := by unfold badP; omega
        have hE3 : parE 3 (cW w1 l2 l3) (cO w1 l2 l3) (cN w1 l2 l3) zB = 0 := by rw [parE, par_3 hnb rfl]
        have hE4 : parE 4 (cW w1 l2 l3) (cO w1 l2 l3) (cN w1 l2 l3) (foldB (cO w1 l2 l3)) = 0 := by rw [parE, par_4 hnb rfl]
        have hE2 : parE 2 (cW w1 l2 l3) (cO w1 l2 l3) (cN w1 l2 l3) zB = 0 := by rw [parE, par_2 hnb rfl]
        have hB3 : parB 3 (cW w1 l2 l3) (cO w1 l2 l3) (cN w1 l2 l3) zB = foldB (mixL (cW w1 l2 l3) (cO w1 l2 l3) (cN w1 l2 l3) j) := by rw [parB, par_3 hnb rfl, hjj, hcw]
        have hB4 : parB 4 (cW w1 l2 l3) (cO w1 l2 l3) (cN w1 l2 l3) (foldB (cO w1 l2 l3)) = foldB (mixL (cW w1 l2 l3) (cO w1 l2 l3) (cN w1 l2 l3) j) := by rw [parB, par_4 hnb rfl, hjj, ← hcw]; exact same4 (by omega)
        have hB2 : allT (cW w1 l2 l3) j = true → parB 2 (cW w1 l2 l3) (cO w1 l2 l3) (cN w1 l2 l3) zB = foldB (mixL (cW w1 l2 l3) (cO w1 l2 l3) (cN w1 l2 l3) j) := by intro h; rw [parB, par_2 hnb rfl, mixL_all h (by omega), List.take_of_length_le (by omega)]
        refine c_exit ?_
        refine hK8 _ _ ?_
        refine c_seq fun K16 hK16 => ?_
        refine c_region ?_
        refine o_y (v := .slice (a) ((mixL (cW w1 l2 l3) (cO w1 l2 l3) (cN w1 l2 l3) (j)).length) (cap)) rfl rfl (y_move h1_8) ?_
        refine o_y (v := .agg (bv (foldB (mixL (cW w1 l2 l3) (cO w1 l2 l3) (cN w1 l2 l3) (j))))) rfl rfl (y_call (vs := [.slice (a) ((mixL (cW w1 l2 l3) (cO w1 l2 l3) (cN w1 l2 l3) (j)).length) (cap)]) b15 rfl (fun w hw => f15_rfold (mixL (cW w1 l2 l3) (cO w1 l2 l3) (cN w1 l2 l3) (j)) _ _ _ _ _ w (by first | rfl | (simp; done) | (simp; omega) | omega) ((SlG.own hv1_1 (fun p hp => hp)) w hw))) ?_
        refine o_alloc (z := .agg (bv (zB))) rfl z35 fun g13 => ?_
        refine o_storeB (H' := [(g13, .cells (bv (foldB (mixL (cW w1 l2 l3) (cO w1 l2 l3) (cN w1 l2 l3) (j)))) 35 (0, 0))] ++ (Hx)) T35 0 rfl rfl rfl rfl ?_
        refine o_nil ?_
        refine hK16 _ _ ?_
        refine c_seq fun K17 hK17 => ?_
        refine c_region ?_
        refine o_y (v := .slice (a1) (cutN w1 l2 l3) (cap1)) rfl rfl (y_move h1_0) ?_
        refine o_y (v := .slice (a2) (cutN w1 l2 l3) (cap2)) rfl rfl (y_move h1_1) ?_
        refine o_y (v := .slice (a3) (cutN w1 l2 l3) (cap3)) rfl rfl (y_move h1_2) ?_
        refine o_y (v := .agg (bv (zB))) rfl rfl (y_build rfl (by kernel_rfl)) ?_
        refine o_y (v := .tuple #[.agg (bv (parB (3) ((cW w1 l2 l3)) ((cO w1 l2 l3)) ((cN w1 l2 l3)) (zB))), .int .i64 (parE (3) ((cW w1 l2 l3)) ((cO w1 l2 l3)) ((cN w1 l2 l3)) (zB))]) rfl rfl (y_call (vs := [.int .u8 (3), .slice (a1) (cutN w1 l2 l3) (cap1), .slice (a2) (cutN w1 l2 l3) (cap2), .slice (a3) (cutN w1 l2 l3) (cap3), .agg (bv (zB))]) b12 rfl (fun w hw => f12_Parity (3) ((cW w1 l2 l3)) _ _ _ _ _ ((cO w1 l2 l3)) _ _ _ _ _ ((cN w1 l2 l3)) _ _ _ _ _ (zB) w (by first | rfl | omega | (simp; done) | (simp; omega)) ((SlG.first (SlG.old hs1 (fun _ h => h)) (cutN w1 l2 l3)) w hw) (by first | rfl | omega | (simp; done) | (simp; omega)) ((SlG.first (SlG.old hs2 (fun _ h => h)) (cutN w1 l2 l3)) w hw) (by first | rfl | omega | (simp; done) | (simp; omega)) ((SlG.first (SlG.old hs3 (fun _ h => h)) (cutN w1 l2 l3)) w hw))) ?_
        refine o_y (v := .tuple #[.agg (bv (parB (3) ((cW w1 l2 l3)) ((cO w1 l2 l3)) ((cN w1 l2 l3)) (zB))), .int .i64 (parE (3) ((cW w1 l2 l3)) ((cO w1 l2 l3)) ((cN w1 l2 l3)) (zB))]) rfl rfl (y_move rfl) ?_
        refine o_y (v := .agg (bv (parB (3) ((cW w1 l2 l3)) ((cO w1 l2 l3)) ((cN w1 l2 l3)) (zB)))) rfl rfl (y_extract (vs := #[.agg (bv (parB (3) ((cW w1 l2 l3)) ((cO w1 l2 l3)) ((cN w1 l2 l3)) (zB))), .int .i64 (parE (3) ((cW w1 l2 l3)) ((cO w1 l2 l3)) ((cN w1 l2 l3)) (zB))]) rfl rfl) ?_
        refine o_y (v := .int .i64 (parE (3) ((cW w1 l2 l3)) ((cO w1 l2 l3)) ((cN w1 l2 l3)) (zB))) rfl rfl (y_extract (vs := #[.agg (bv (parB (3) ((cW w1 l2 l3)) ((cO w1 l2 l3)) ((cN w1 l2 l3)) (zB))), .int .i64 (parE (3) ((cW w1 l2 l3)) ((cO w1 l2 l3)) ((cN w1 l2 l3)) (zB))]) rfl rfl) ?_
        refine o_alloc (z := .agg (bv (zB))) rfl z35 fun g14 => ?_
        refine o_storeB (H' := [(g14, .cells (bv (parB (3) ((cW w1 l2 l3)) ((cO w1 l2 l3)) ((cN w1 l2 l3)) (zB))) 35 (0, 0)), (g13, .cells (bv (foldB (mixL (cW w1 l2 l3) (cO w1 l2 l3) (cN w1 l2 l3) (j)))) 35 (0, 0))] ++ (Hx)) T35 0 rfl rfl rfl rfl ?_
        refine o_y (v := .int .i64 (parE (3) ((cW w1 l2 l3)) ((cO w1 l2 l3)) ((cN w1 l2 l3)) (zB))) rfl rfl (y_assign rfl) ?_
        refine o_nil ?_
        refine hK17 _ _ ?_
        refine c_seq fun K18 hK18 => ?_
        refine c_region ?_
        refine o_y (v := .slice (a1) (cutN w1 l2 l3) (cap1)) rfl rfl (y_move h1_0) ?_
        refine o_y (v := .slice (a2) (cutN w1 l2 l3) (cap2)) rfl rfl (y_move h1_1) ?_
        refine o_y (v := .slice (a3) (cutN w1 l2 l3) (cap3)) rfl rfl (y_move h1_2) ?_
        refine o_y (v := .slice (a2) (cutN w1 l2 l3) (cap2)) rfl rfl (y_move h1_1) ?_
        refine o_y (v := .agg (bv (foldB ((cO w1 l2 l3))))) rfl rfl (y_call (vs := [.slice (a2) (cutN w1 l2 l3) (cap2)]) b15 rfl (fun w hw => f15_rfold ((cO w1 l2 l3)) _ _ _ _ _ w (by first | rfl | (simp; done) | (simp; omega) | omega) ((SlG.first (SlG.old hs2 (fun _ h => h)) (cutN w1 l2 l3)) w hw))) ?_
        refine o_y (v := .tuple #[.agg (bv (parB (4) ((cW w1 l2 l3)) ((cO w1 l2 l3)) ((cN w1 l2 l3)) (foldB ((cO w1 l2 l3))))), .int .i64 (parE (4) ((cW w1 l2 l3)) ((cO w1 l2 l3)) ((cN w1 l2 l3)) (foldB ((cO w1 l2 l3))))]) rfl rfl (y_call (vs := [.int .u8 (4), .slice (a1) (cutN w1 l2 l3) (cap1), .slice (a2) (cutN w1 l2 l3) (cap2), .slice (a3) (cutN w1 l2 l3) (cap3), .agg (bv (foldB ((cO w1 l2 l3))))]) b12 rfl (fun w hw => f12_Parity (4) ((cW w1 l2 l3)) _ _ _ _ _ ((cO w1 l2 l3)) _ _ _ _ _ ((cN w1 l2 l3)) _ _ _ _ _ (foldB ((cO w1 l2 l3))) w (by first | rfl | omega | (simp; done) | (simp; omega)) ((SlG.first (SlG.old hs1 (fun _ h => h)) (cutN w1 l2 l3)) w hw) (by first | rfl | omega | (simp; done) | (simp; omega)) ((SlG.first (SlG.old hs2 (fun _ h => h)) (cutN w1 l2 l3)) w hw) (by first | rfl | omega | (simp; done) | (simp; omega)) ((SlG.first (SlG.old hs3 (fun _ h => h)) (cutN w1 l2 l3)) w hw))) ?_
        refine o_y (v := .tuple #[.agg (bv (parB (4) ((cW w1 l2 l3)) ((cO w1 l2 l3)) ((cN w1 l2 l3)) (foldB ((cO w1 l2 l3))))), .int .i64 (parE (4) ((cW w1 l2 l3)) ((cO w1 l2 l3)) ((cN w1 l2 l3)) (foldB ((cO w1 l2 l3))))]) rfl rfl (y_move rfl) ?_
        refine o_y (v := .agg (bv (parB (4) ((cW w1 l2 l3)) ((cO w1 l2 l3)) ((cN w1 l2 l3)) (foldB ((cO w1 l2 l3)))))) rfl rfl (y_extract (vs := #[.agg (bv (parB (4) ((cW w1 l2 l3)) ((cO w1 l2 l3)) ((cN w1 l2 l3)) (foldB ((cO w1 l2 l3))))), .int .i64 (parE (4) ((cW w1 l2 l3)) ((cO w1 l2 l3)) ((cN w1 l2 l3)) (foldB ((cO w1 l2 l3))))]) rfl rfl) ?_
        refine o_y (v := .int .i64 (parE (4) ((cW w1 l2 l3)) ((cO w1 l2 l3)) ((cN w1 l2 l3)) (foldB ((cO w1 l2 l3))))) rfl rfl (y_extract (vs := #[.agg (bv (parB (4) ((cW w1 l2 l3)) ((cO w1 l2 l3)) ((cN w1 l2 l3)) (foldB ((cO w1 l2 l3))))), .int .i64 (parE (4) ((cW w1 l2 l3)) ((cO w1 l2 l3)) ((cN w1 l2 l3)) (foldB ((cO w1 l2 l3))))]) rfl rfl) ?_
        refine o_alloc (z := .agg (bv (zB))) rfl z35 fun g15 => ?_
        refine o_storeB (H' := [(g15, .cells (bv (parB (4) ((cW w1 l2 l3)) ((cO w1 l2 l3)) ((cN w1 l2 l3)) (foldB ((cO w1 l2 l3))))) 35 (0, 0)), (g14, .cells (bv (parB (3) ((cW w1 l2 l3)) ((cO w1 l2 l3)) ((cN w1 l2 l3)) (zB))) 35 (0, 0)), (g13, .cells (bv (foldB (mixL (cW w1 l2 l3) (cO w1 l2 l3) (cN w1 l2 l3) (j)))) 35 (0, 0))] ++ (Hx)) T35 0 rfl rfl rfl rfl ?_
        refine o_y (v := .int .i64 (parE (4) ((cW w1 l2 l3)) ((cO w1 l2 l3)) ((cN w1 l2 l3)) (foldB ((cO w1 l2 l3))))) rfl rfl (y_assign rfl) ?_
        refine o_nil ?_
        refine hK18 _ _ ?_
        refine c_seq fun K19 hK19 => ?_
        refine c_region ?_
        refine o_y (v := .slice (a1) (cutN w1 l2 l3) (cap1)) rfl rfl (y_move h1_0) ?_
        refine o_y (v := .slice (a2) (cutN w1 l2 l3) (cap2)) rfl rfl (y_move h1_1) ?_
        refine o_y (v := .slice (a3) (cutN w1 l2 l3) (cap3)) rfl rfl (y_move h1_2) ?_
        refine o_y (v := .agg (bv (zB))) rfl rfl (y_build rfl (by kernel_rfl)) ?_
        refine o_y (v := .tuple #[.agg (bv (parB (2) ((cW w1 l2 l3)) ((cO w1 l2 l3)) ((cN w1 l2 l3)) (zB))), .int .i64 (parE (2) ((cW w1 l2 l3)) ((cO w1 l2 l3)) ((cN w1 l2 l3)) (zB))]) rfl rfl (y_call (vs := [.int .u8 (2), .slice (a1) (cutN w1 l2 l3) (cap1), .slice (a2) (cutN w1 l2 l3) (cap2), .slice (a3) (cutN w1 l2 l3) (cap3), .agg (bv (zB))]) b12 rfl (fun w hw => f12_Parity (2) ((cW w1 l2 l3)) _ _ _ _ _ ((cO w1 l2 l3)) _ _ _ _ _ ((cN w1 l2 l3)) _ _ _ _ _ (zB) w (by first | rfl | omega | (simp; done) | (simp; omega)) ((SlG.first (SlG.old hs1 (fun _ h => h)) (cutN w1 l2 l3)) w hw) (by first | rfl | omega | (simp; done) | (simp; omega)) ((SlG.first (SlG.old hs2 (fun _ h => h)) (cutN w1 l2 l3)) w hw) (by first | rfl | omega | (simp; done) | (simp; omega)) ((SlG.first (SlG.old hs3 (fun _ h => h)) (cutN w1 l2 l3)) w hw))) ?_
        refine o_y (v := .tuple #[.agg (bv (parB (2) ((cW w1 l2 l3)) ((cO w1 l2 l3)) ((cN w1 l2 l3)) (zB))), .int .i64 (parE (2) ((cW w1 l2 l3)) ((cO w1 l2 l3)) ((cN w1 l2 l3)) (zB))]) rfl rfl (y_move rfl) ?_
        refine o_y (v := .agg (bv (parB (2) ((cW w1 l2 l3)) ((cO w1 l2 l3)) ((cN w1 l2 l3)) (zB)))) rfl rfl (y_extract (vs := #[.agg (bv (parB (2) ((cW w1 l2 l3)) ((cO w1 l2 l3)) ((cN w1 l2 l3)) (zB))), .int .i64 (parE (2) ((cW w1 l2 l3)) ((cO w1 l2 l3)) ((cN w1 l2 l3)) (zB))]) rfl rfl) ?_
        refine o_y (v := .int .i64 (parE (2) ((cW w1 l2 l3)) ((cO w1 l2 l3)) ((cN w1 l2 l3)) (zB))) rfl rfl (y_extract (vs := #[.agg (bv (parB (2) ((cW w1 l2 l3)) ((cO w1 l2 l3)) ((cN w1 l2 l3)) (zB))), .int .i64 (parE (2) ((cW w1 l2 l3)) ((cO w1 l2 l3)) ((cN w1 l2 l3)) (zB))]) rfl rfl) ?_
        refine o_alloc (z := .agg (bv (zB))) rfl z35 fun g16 => ?_
        refine o_storeB (H' := [(g16, .cells (bv (parB (2) ((cW w1 l2 l3)) ((cO w1 l2 l3)) ((cN w1 l2 l3)) (zB))) 35 (0, 0)), (g15, .cells (bv (parB (4) ((cW w1 l2 l3)) ((cO w1 l2 l3)) ((cN w1 l2 l3)) (foldB ((cO w1 l2 l3))))) 35 (0, 0)), (g14, .cells (bv (parB (3) ((cW w1 l2 l3)) ((cO w1 l2 l3)) ((cN w1 l2 l3)) (zB))) 35 (0, 0)), (g13, .cells (bv (foldB (mixL (cW w1 l2 l3) (cO w1 l2 l3) (cN w1 l2 l3) (j)))) 35 (0, 0))] ++ (Hx)) T35 0 rfl rfl rfl rfl ?_
        refine o_y (v := .int .i64 (parE (2) ((cW w1 l2 l3)) ((cO w1 l2 l3)) ((cN w1 l2 l3)) (zB))) rfl rfl (y_assign rfl) ?_
        refine o_nil ?_
        refine hK19 _ _ ?_
        refine c_seq fun K20 hK20 => ?_
        refine c_region ?_
        refine o_y (v := .int .i64 (parE (3) ((cW w1 l2 l3)) ((cO w1 l2 l3)) ((cN w1 l2 l3)) (zB))) rfl rfl (y_move rfl) ?_
        refine o_y (v := .bool (true)) rfl rfl (y_bool (y_eql rfl rfl rfl) (decide_eq_true hE3)) ?_
        refine o_y (v := .bool (true)) rfl rfl (y_move rfl) ?_
        refine o_guard (j := 2) (d := 89) (b := true) rfl rfl rfl (fun _ => ?_) rfl (fun h => by cases h)
        refine o_y (v := .int .i64 (parE (4) ((cW w1 l2 l3)) ((cO w1 l2 l3)) ((cN w1 l2 l3)) (foldB ((cO w1 l2 l3))))) rfl rfl (y_move rfl) ?_
        refine o_guard (j := 2) (d := 89) (b := true) rfl rfl rfl (fun _ => ?_) rfl (fun h => by cases h)
        refine o_y (v := .bool (true)) rfl rfl (y_bool (y_eql rfl rfl rfl) (decide_eq_true hE4)) ?_
        refine o_y (v := .bool (true)) rfl rfl (y_pick (b := true) rfl rfl) ?_
        refine o_y (v := .bool (true)) rfl rfl (y_move rfl) ?_
        refine o_guard (j := 6) (d := 93) (b := true) rfl rfl rfl (fun _ => ?_) rfl (fun h => by cases h)
        refine o_y (v := .int .i64 (parE (2) ((cW w1 l2 l3)) ((cO w1 l2 l3)) ((cN w1 l2 l3)) (zB))) rfl rfl (y_move rfl) ?_
        refine o_guard (j := 6) (d := 93) (b := true) rfl rfl rfl (fun _ => ?_) rfl (fun h => by cases h)
        refine o_y (v := .bool (true)) rfl rfl (y_bool (y_eql rfl rfl rfl) (decide_eq_true hE2)) ?_
        refine o_y (v := .bool (true)) rfl rfl (y_pick (b := true) rfl rfl) ?_
        refine o_y (v := .bool (true)) rfl rfl (y_move rfl) ?_
        refine o_guard (j := 10) (d := 97) (b := true) rfl rfl rfl (fun _ => ?_) rfl (fun h => by cases h)
        refine o_y (v := .agg (bv (parB (3) ((cW w1 l2 l3)) ((cO w1 l2 l3)) ((cN w1 l2 l3)) (zB)))) rfl rfl (y_loadB T35 rfl (Rd.whole (k := 2) rfl)) ?_
        refine o_guard (j := 10) (d := 97) (b := true) rfl rfl rfl (fun _ => ?_) rfl (fun h => by cases h)
        refine o_y (v := .agg (bv (foldB (mixL (cW w1 l2 l3) (cO w1 l2 l3) (cN w1 l2 l3) (j))))) rfl rfl (y_loadB T35 rfl (Rd.whole (k := 3) rfl)) ?_
        refine o_guard (j := 10) (d := 97) (b := true) rfl rfl rfl (fun _ => ?_) rfl (fun h => by cases h)
        refine o_y (v := .bool (true)) rfl rfl (y_bool (y_eqlV T35 rfl rfl) (decide_eq_true hB3)) ?_
        refine o_y (v := .bool (true)) rfl rfl (y_pick (b := true) rfl rfl) ?_
        refine o_y (v := .bool (true)) rfl rfl (y_move rfl) ?_
        refine o_guard (j := 15) (d := 102) (b := true) rfl rfl rfl (fun _ => ?_) rfl (fun h => by cases h)
        refine o_y (v := .agg (bv (parB (4) ((cW w1 l2 l3)) ((cO w1 l2 l3)) ((cN w1 l2 l3)) (foldB ((cO w1 l2 l3)))))) rfl rfl (y_loadB T35 rfl (Rd.whole (k := 1) rfl)) ?_
        refine o_guard (j := 15) (d := 102) (b := true) rfl rfl rfl (fun _ => ?_) rfl (fun h => by cases h)
        refine o_y (v := .agg (bv (foldB (mixL (cW w1 l2 l3) (cO w1 l2 l3) (cN w1 l2 l3) (j))))) rfl rfl (y_loadB T35 rfl (Rd.whole (k := 3) rfl)) ?_
        refine o_guard (j := 15) (d := 102) (b := true) rfl rfl rfl (fun _ => ?_) rfl (fun h => by cases h)
        refine o_y (v := .bool (true)) rfl rfl (y_bool (y_eqlV T35 rfl rfl) (decide_eq_true hB4)) ?_
        refine o_y (v := .bool (true)) rfl rfl (y_pick (b := true) rfl rfl) ?_
        refine o_y (v := .bool (true)) rfl rfl (y_move rfl) ?_
        refine o_guard (j := 20) (d := 107) (b := true) rfl rfl rfl (fun _ => ?_) rfl (fun h => by cases h)
        refine o_y (v := .bool (allT (cW w1 l2 l3) (j))) rfl rfl (y_move h1_7) ?_
        refine o_guard (j := 20) (d := 107) (b := true) rfl rfl rfl (fun _ => ?_) rfl (fun h => by cases h)
        refine o_y (v := .bool (!(allT (cW w1 l2 l3) (j)))) rfl rfl (y_not rfl rfl) ?_
        refine o_guard (j := 20) (d := 107) (b := true) rfl rfl rfl (fun _ => ?_) rfl (fun h => by cases h)
        refine o_y (v := .bool (!(allT (cW w1 l2 l3) (j)))) rfl rfl (y_move rfl) ?_
        cases hc10 : (!(allT (cW w1 l2 l3) (j)) : Bool)
        ·
          try have hc10' : (allT (cW w1 l2 l3) (j)) = true := by simpa using hc10
          -- way FLFF
          refine o_guard (j := 23) (d := 110) (b := false) rfl rfl rfl (fun _ => ?_) rfl (fun h => by cases h)
          refine o_y (v := .agg (bv (parB (2) ((cW w1 l2 l3)) ((cO w1 l2 l3)) ((cN w1 l2 l3)) (zB)))) rfl rfl (y_loadB T35 rfl (Rd.whole (k := 0) rfl)) ?_
          refine o_guard (j := 23) (d := 110) (b := false) rfl rfl rfl (fun _ => ?_) rfl (fun h => by cases h)
          refine o_y (v := .agg (bv (foldB (mixL (cW w1 l2 l3) (cO w1 l2 l3) (cN w1 l2 l3) (j))))) rfl rfl (y_loadB T35 rfl (Rd.whole (k := 3) rfl)) ?_
          refine o_guard (j := 23) (d := 110) (b := false) rfl rfl rfl (fun _ => ?_) rfl (fun h => by cases h)
          refine o_y (v := .bool (true)) rfl rfl (y_bool (y_eqlV T35 rfl rfl) (decide_eq_true (hB2 (by simpa using hc10)))) ?_
          refine o_guard (j := 20) (d := 107) (b := true) rfl rfl rfl (fun _ => ?_) rfl (fun h => by cases h)
          refine o_y (v := .bool (true)) rfl rfl (y_pick (b := false) rfl rfl) ?_
          refine o_y (v := .bool (true)) rfl rfl (y_pick (b := true) rfl rfl) ?_
          refine o_y (v := .bool (true)) rfl rfl (y_move rfl) ?_
          refine o_guard (j := 29) (d := 116) (b := true) rfl rfl rfl (fun _ => ?_) rfl (fun h => by cases h)
          refine o_y (v := .bool (true)) rfl rfl (y_call (vs := []) b11 rfl (fun w hw => f11_lives w)) ?_
          refine o_y (v := .bool (true)) rfl rfl (y_pick (b := true) rfl rfl) ?_
          refine o_y (v := .bool (true)) rfl rfl (y_assign rfl) ?_
          refine o_nil ?_
          refine hK20 _ _ ?_
          refine c_ret ?_
          refine fun w hw => ⟨[.bool (true)], ⟨rfl, trivial⟩, ?_⟩
          exact rfl
        ·
          try have hc10' : (allT (cW w1 l2 l3) (j)) = false := by simpa using hc10
          -- way FLFT
          refine o_guard (j := 23) (d := 110) (b := true) rfl rfl rfl (fun h => by cases h) rfl (fun _ => ?_)
          refine o_guard (j := 23) (d := 110) (b := true) rfl rfl rfl (fun h => by cases h) rfl (fun _ => ?_)
          refine o_guard (j := 23) (d := 110) (b := true) rfl rfl rfl (fun h => by cases h) rfl (fun _ => ?_)
          refine o_guard (j := 20) (d := 107) (b := true) rfl rfl rfl (fun _ => ?_) rfl (fun h => by cases h)
          refine o_y (v := .bool (true)) rfl rfl (y_pick (b := true) rfl rfl) ?_
          refine o_y (v := .bool (true)) rfl rfl (y_pick (b := true) rfl rfl) ?_
          refine o_y (v := .bool (true)) rfl rfl (y_move rfl) ?_
          refine o_guard (j := 29) (d := 116) (b := true) rfl rfl rfl (fun _ => ?_) rfl (fun h => by cases h)
          refine o_y (v := .bool (true)) rfl rfl (y_call (vs := []) b11 rfl (fun w hw => f11_lives w)) ?_
          refine o_y (v := .bool (true)) rfl rfl (y_pick (b := true) rfl rfl) ?_
          refine o_y (v := .bool (true)) rfl rfl (y_assign rfl) ?_
          refine o_nil ?_
          refine hK20 _ _ ?_
          refine c_ret ?_
          refine fun w hw => ⟨[.bool (true)], ⟨rfl, trivial⟩, ?_⟩
          exact rfl

end Go.Proofs.Ytdekckpoolkgnaa.Plan
