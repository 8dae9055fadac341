/- Proved: what the parities of a plan come to; the conditions stand in the statements. -/
import Derived.Test.YtdekckpoolkgnaaPlanH
import Derived.Test.YtdekckpoolkgnaaEngH
set_option linter.unusedVariables false
set_option linter.unusedSimpArgs false
namespace Go.Proofs.Ytdekckpoolkgnaa.Plan
open Go Go.RowKit Go.Proofs.Ytdekckpoolkgnaa.Eng

/-- As many as there are of the least, at most 15. -/
def cutN (w : List Bool) (o n : List Blk) : Nat := min (min (min w.length o.length) n.length) 15
theorem cutN_eq (w : List Bool) (o n : List Blk) : min (min (min (w.length : Int) o.length) n.length) 15 = ((cutN w o n : Nat) : Int) := by unfold cutN; omega
theorem cutN_le (w : List Bool) (o n : List Blk) : cutN w o n ≤ w.length ∧ cutN w o n ≤ o.length ∧ cutN w o n ≤ n.length ∧ cutN w o n ≤ 15 := by unfold cutN; omega
section
variable {P : Program} {w0 : World} {S : Nat → Prop} {R : Regs} {H : Hp} {dst : Option Tmp} {pos : String} {after : Array Edge} {gd : Option (Nat × Bool)}
theorem y_min4 {x y z u : Operand} {k : IntKind} {p q s t c : Int} {ts : Array TypeId} {r : TypeId} (hx : ev R x = .int k p) (hy : ev R y = .int k q) (hz : ev R z = .int k s) (hu : ev R u = .int k t) (h : min (min (min p q) s) t = c) : Eng.Yields P w0 S H ⟨dst, .call { callee := .builtin .min, args := #[x, y, z, u], argTypes := ts }, r, pos, after, gd⟩ R (.int k c) :=
  y_val fun w => by
    subst h
    simp [execOp, resolve, hx, hy, hz, hu, invoke, builtin, Builtin.min_, Builtin.min2]
    omega
end

/-- The cut lists. -/
def cW (w : List Bool) (o n : List Blk) : List Bool := w.take (cutN w o n)
def cO (w : List Bool) (o n : List Blk) : List Blk := o.take (cutN w o n)
def cN (w : List Bool) (o n : List Blk) : List Blk := n.take (cutN w o n)
theorem cW_len (w : List Bool) (o n : List Blk) : (cW w o n).length = cutN w o n := by have := cutN_le w o n; simp [cW]; omega
theorem cO_len (w : List Bool) (o n : List Blk) : (cO w o n).length = cutN w o n := by have := cutN_le w o n; simp [cO]; omega
theorem cN_len (w : List Bool) (o n : List Blk) : (cN w o n).length = cutN w o n := by have := cutN_le w o n; simp [cN]; omega
/-- Are the first ones all written? -/
def allT (w : List Bool) : Nat → Bool
  | 0 => true
  | j + 1 => allT w j && w.getD j false
theorem allT_t {w : List Bool} {j : Nat} (h : allT w j = true) (hj : j < w.length) : w[j] = allT w (j + 1) := by rw [allT, h, getD_get w j hj]; simp
theorem allT_f {w : List Bool} {j : Nat} (h : allT w j = false) : false = allT w (j + 1) := by rw [allT, h]; simp
theorem mixL_all {w : List Bool} {o n : List Blk} : ∀ {j : Nat}, allT w j = true → j ≤ n.length → mixL w o n j = n.take j
  | 0, _, _ => rfl
  | j + 1, h, hj => by
    rw [allT, Bool.and_eq_true] at h
    rw [mixL, mixL_all h.1 (by omega), if_pos h.2, getB n j (by omega), List.take_succ_eq_append_getElem (by omega)]
theorem same4 {w : List Bool} {o n : List Blk} (h2 : o.length = w.length) : foldB (dltB w o n (foldB o) w.length) = foldB (mixL w o n w.length) := by
  rw [fold_dlt h2 _ (Nat.le_refl _), List.take_of_length_le (by omega), xorB_self, zero_xorB]
set_option maxRecDepth 100000 in
set_option maxHeartbeats 4000000 in
theorem f12_Parity (way : Int) (w1 : List Bool) (a1 : Option Addr) (b1 o1 cap1 m1 : Nat) (l2 : List Blk) (a2 : Option Addr) (b2 o2 cap2 m2 : Nat) (l3 : List Blk) (a3 : Option Addr) (b3 o3 cap3 m3 : Nat) (b : Blk) (w : World) (hm1 : m1 = w1.length) (hs1 : Sl eBool w w1 a1 b1 o1 cap1) (hm2 : m2 = l2.length) (hs2 : Sl eBlk w l2 a2 b2 o2 cap2) (hm3 : m3 = l3.length) (hs3 : Sl eBlk w l3 a3 b3 o3 cap3) :
    Calls Try.prog 12 [.int .u8 (way), .slice (a1) (m1) (cap1), .slice (a2) (m2) (cap2), .slice (a3) (m3) (cap3), .agg (bv (b))].toArray w fun e w' => e = .returned (.tuple #[.agg (bv (parB way w1 l2 l3 b)), .int .i64 (parE way w1 l2 l3 b)]) ∧ Below w.heap.size w w' := by
  subst hm1
  subst hm2
  subst hm3
  have hle1 := hs1.le
  have hle2 := hs2.le
  have hle3 := hs3.le
  have hmx1 := hs1.mx
  have hmx2 := hs2.mx
  have hmx3 := hs3.mx
  simp only [maxLen] at hmx1 hmx2 hmx3
  refine (calls_of (P := Try.prog) (n := 94) (w0 := w) (S := fun _ => False) (H := []) (T := fun v _ => v = (.tuple #[.agg (bv (parB way w1 l2 l3 b)), .int .i64 (parE way w1 l2 l3 b)])) Try.func12 rfl Try.ntmps12 (Nat.le_of_ble_eq_true rfl) [.cell 10 35, .tmp 11] rfl (St.nil w _) ?_).mono fun e w' ⟨v, H', he, hs, hT⟩ => ⟨by rw [he, hT], hs.below⟩
  refine c_seq fun K1 hK1 => ?_
  refine c_region ?_
  refine o_box (v := .agg (bv (b))) rfl rfl fun g1 => ?_
  refine o_alloc (z := .agg (bv (zB))) rfl z35 fun g2 => ?_
  refine o_y (v := .int .i64 (0)) rfl rfl (y_assign rfl) ?_
  refine o_nil ?_
  refine hK1 _ _ ?_
  refine c_seq fun K2 hK2 => ?_
  refine c_region ?_
  refine o_y (v := .slice (a1) ((w1).length) (cap1)) rfl rfl (y_move rfl) ?_
  refine o_y (v := .int .i64 ((((w1).length : Nat) : Int))) rfl rfl (y_len rfl Try.underlying22) ?_
  refine o_y (v := .int .i64 ((((w1).length : Nat) : Int))) rfl rfl (y_assign rfl) ?_
  refine o_nil ?_
  refine hK2 _ _ ?_
  refine c_seq fun K3 hK3 => ?_
  refine c_seq fun K4 hK4 => ?_
  refine c_region ?_
  refine o_y (v := .int .i64 ((((w1).length : Nat) : Int))) rfl rfl (y_move rfl) ?_
  refine o_y (v := .bool (decide (2 ≤ (((w1).length : Nat) : Int) ∧ (((w1).length : Nat) : Int) ≤ 15))) rfl rfl (y_call (vs := [.int .i64 ((((w1).length : Nat) : Int))]) b16 rfl (fun w hw => f16_many _ w)) ?_
  refine o_y (v := .bool (!(decide (2 ≤ (((w1).length : Nat) : Int) ∧ (((w1).length : Nat) : Int) ≤ 15)))) rfl rfl (y_not rfl rfl) ?_
  refine o_y (v := .bool (!(decide (2 ≤ (((w1).length : Nat) : Int) ∧ (((w1).length : Nat) : Int) ≤ 15)))) rfl rfl (y_move rfl) ?_
  cases hc1 : (!(decide (2 ≤ (((w1).length : Nat) : Int) ∧ (((w1).length : Nat) : Int) ≤ 15)) : Bool)
  ·
    have hc1' := hc1
    simp only [Bool.not_eq_true', Bool.not_eq_false', decide_eq_true_eq, decide_eq_false_iff_not] at hc1'
    -- way F
    refine o_guard (j := 3) (d := 23) (b := false) rfl rfl rfl (fun _ => ?_) rfl (fun h => by cases h)
    refine o_y (v := .slice (a2) ((l2).length) (cap2)) rfl rfl (y_move rfl) ?_
    refine o_guard (j := 3) (d := 23) (b := false) rfl rfl rfl (fun _ => ?_) rfl (fun h => by cases h)
    refine o_y (v := .int .i64 ((((l2).length : Nat) : Int))) rfl rfl (y_len rfl Try.underlying33) ?_
    refine o_guard (j := 3) (d := 23) (b := false) rfl rfl rfl (fun _ => ?_) rfl (fun h => by cases h)
    refine o_y (v := .int .i64 ((((w1).length : Nat) : Int))) rfl rfl (y_move rfl) ?_
    refine o_guard (j := 3) (d := 23) (b := false) rfl rfl rfl (fun _ => ?_) rfl (fun h => by cases h)
    refine o_y (v := .bool (decide ((((l2).length : Nat) : Int) ≠ (((w1).length : Nat) : Int)))) rfl rfl (y_neq rfl rfl rfl) ?_
    refine o_y (v := .bool (decide ((((l2).length : Nat) : Int) ≠ (((w1).length : Nat) : Int)))) rfl rfl (y_pick (b := false) rfl rfl) ?_
    refine o_y (v := .bool (decide ((((l2).length : Nat) : Int) ≠ (((w1).length : Nat) : Int)))) rfl rfl (y_move rfl) ?_
    cases hc2 : (decide ((((l2).length : Nat) : Int) ≠ (((w1).length : Nat) : Int)) : Bool)
    ·
      have hc2' := of_decide_eq_false hc2
      -- way FF
      refine o_guard (j := 9) (d := 29) (b := false) rfl rfl rfl (fun _ => ?_) rfl (fun h => by cases h)
      refine o_y (v := .slice (a3) ((l3).length) (cap3)) rfl rfl (y_move rfl) ?_
      refine o_guard (j := 9) (d := 29) (b := false) rfl rfl rfl (fun _ => ?_) rfl (fun h => by cases h)
      refine o_y (v := .int .i64 ((((l3).length : Nat) : Int))) rfl rfl (y_len rfl Try.underlying33) ?_
      refine o_guard (j := 9) (d := 29) (b := false) rfl rfl rfl (fun _ => ?_) rfl (fun h => by cases h)
      refine o_y (v := .int .i64 ((((w1).length : Nat) : Int))) rfl rfl (y_move rfl) ?_
      refine o_guard (j := 9) (d := 29) (b := false) rfl rfl rfl (fun _ => ?_) rfl (fun h => by cases h)
      refine o_y (v := .bool (decide ((((l3).length : Nat) : Int) ≠ (((w1).length : Nat) : Int)))) rfl rfl (y_neq rfl rfl rfl) ?_
      refine o_y (v := .bool (decide ((((l3).length : Nat) : Int) ≠ (((w1).length : Nat) : Int)))) rfl rfl (y_pick (b := false) rfl rfl) ?_
      refine o_nil ?_
      refine hK4 _ _ ?_
      refine c_cond (t := decide ((((l3).length : Nat) : Int) ≠ (((w1).length : Nat) : Int))) rfl (fun hc3 => ?_) (fun hc3 => ?_)
      ·
        replace hc3 := of_decide_eq_true hc3
        -- way FFT
        refine c_seq fun K5 hK5 => ?_
        refine c_region ?_
        refine o_y (v := .agg (bv (zB))) rfl rfl (y_build rfl (by kernel_rfl)) ?_
        refine o_storeB (H' := [(g2, .cells (bv (zB)) 35 (0, 0)), (g1, .cells (bv (b)) 35 (0, 0))]) T35 0 rfl rfl rfl rfl ?_
        refine o_y (v := .int .i64 (2)) rfl rfl (y_assign rfl) ?_
        refine o_nil ?_
        refine hK5 _ _ ?_
        refine c_ret ?_
        refine fun w hw => ⟨[.agg (bv (zB)), .int .i64 (2)], ⟨⟨_, rfl, loadB T35 ((Rd.whole (k := 0) rfl) w hw)⟩, rfl, trivial⟩, ?_⟩
        by_cases hbad : badP w1 l2 l3
        · have hq := par_bad (way := way) (p := b) hbad
          rw [parB, parE, hq]
          rfl
        · have hq := par_none (way := way) (p := b) hbad (by unfold badP at hbad; omega) (by unfold badP at hbad; omega) (by unfold badP at hbad; omega)
          rw [parB, parE, hq]
          rfl
      ·
        replace hc3 := of_decide_eq_false hc3
        -- way FFF
        refine c_skip ?_
        refine hK3 _ _ ?_
        refine c_seq fun K6 hK6 => ?_
        refine c_region ?_
        refine o_y (v := .slice none 0 0) rfl rfl (y_assign rfl) ?_
        refine o_nil ?_
        refine hK6 _ _ ?_
        refine c_seq fun K7 hK7 => ?_
        refine c_seq fun K8 hK8 => ?_
        refine c_region ?_
        refine o_y (v := .int .u8 (way)) rfl rfl (y_move rfl) ?_
        refine o_nil ?_
        refine hK8 _ _ ?_
        refine c_block ?_
        refine c_seq fun K9 hK9 => ?_
        refine c_block ?_
        refine c_seq fun K10 hK10 => ?_
        refine c_block ?_
        refine c_seq fun K11 hK11 => ?_
        refine c_block ?_
        refine c_seq fun K12 hK12 => ?_
        refine c_block ?_
        refine c_seq fun K13 hK13 => ?_
        refine c_seq fun K14 hK14 => ?_
        refine c_seq fun K15 hK15 => ?_
        refine c_region ?_
        refine o_y (v := .bool (decide (way = 4))) rfl rfl (y_eql rfl rfl rfl) ?_
        refine o_y (v := .bool (decide (way = 4))) rfl rfl (y_assign rfl) ?_
        refine o_nil ?_
        refine hK15 _ _ ?_
        refine c_cond (t := decide (way = 4)) rfl (fun hc4 => ?_) (fun hc4 => ?_)
        ·
          replace hc4 := of_decide_eq_true hc4
          -- way FFFT
          refine c_exit ?_
          refine hK12 _ _ ?_
          refine c_seq fun K16 hK16 => ?_
          refine c_seq fun K17 hK17 => ?_
          refine c_region ?_
          refine o_y (v := .slice none 0 0) rfl rfl (y_move rfl) ?_
          refine o_y (v := .agg (bv (b))) rfl rfl (y_loadB T35 rfl (Rd.whole (k := 1) rfl)) ?_
          refine o_buildRow SL33 ([b] : List Blk) (fun x => .agg (bv x)) (fun _ => rfl) rfl rfl (by rw [Array.toList_map]; rfl) (by simp) (by simp [eBlk]) fun g3 cg3 hrg3 => ?_
          refine o_appendV SL33 ([(g3, .cells (cg3) 35 (0, 0)), (g2, .cells (bv (zB)) 35 (0, 0)), (g1, .cells (bv (b)) 35 (0, 0))]) (fun Hy => [(g3, .cells (cg3) 35 (0, 0)), (g2, .cells (bv (zB)) 35 (0, 0)), (g1, .cells (bv (b)) 35 (0, 0))] ++ (Hy)) rfl (fun Hy => by have h := List.perm_append_comm (l₁ := ([(g3, .cells (cg3) 35 (0, 0)), (g2, .cells (bv (zB)) 35 (0, 0)), (g1, .cells (bv (b)) 35 (0, 0))] : Hp)) (l₂ := Hy); first | exact h | simpa [Value.cells] using h) (List.Perm.refl _) OwnV.none' rfl (by first | omega | (simp; done) | (simp; omega)) rfl (by first | omega | (simp; done) | (simp; omega)) (SlG.row (k := 0) rfl hrg3) (by simp only [maxLen] <;> first | omega | (simp; done) | (simp; omega)) (by first | omega | (simp; done) | (simp; omega)) fun ap5 gp5 capp5 Hp5 hvp5 => ?_
          rw [List.nil_append] at hvp5
          refine o_y (v := .slice (ap5) (0 + 1) (capp5)) rfl rfl (y_assign rfl) ?_
          refine o_nil ?_
          refine hK17 _ _ ?_
          refine c_seq fun K18 hK18 => ?_
          refine c_region ?_
          refine o_y (v := .slice (a1) ((w1).length) (cap1)) rfl rfl (y_move rfl) ?_
          refine o_y (v := .int .i64 ((((w1).length : Nat) : Int))) rfl rfl (y_len rfl Try.underlying22) ?_
          refine o_y (v := .int .i64 (0)) rfl rfl (y_move rfl) ?_
          refine o_nil ?_
          refine hK18 _ _ ?_
          refine c_block ?_
          refine c_forget (H' := [(g2, .cells (bv (zB)) 35 (0, 0)), (g1, .cells (bv (b)) 35 (0, 0))] ++ (Hp5)) ((((List.Sublist.refl _).cons_cons _).cons_cons _).cons _) ?_
          refine c_loop (fun d R H => ∃ (j : Nat) (a : Option Addr) (g : Nat) (cap : Nat) (Hx : Hp), d = w1.length - (j) ∧ (j ≤ w1.length) ∧ (OwnV eBlk 35 (dltB w1 l2 l3 b (j)) a g cap Hx) ∧ R 1 = .slice (a1) ((w1).length) (cap1) ∧ R 2 = .slice (a2) ((l2).length) (cap2) ∧ R 3 = .slice (a3) ((l3).length) (cap3) ∧ R 9 = .pointer (some ⟨g1, 0, none⟩) ∧ R 10 = .pointer (some ⟨g2, 0, none⟩) ∧ R 47 = .slice (a1) ((w1).length) (cap1) ∧ R 48 = .int .i64 ((((w1).length : Nat) : Int)) ∧ R 49 = .int .i64 (((j : Nat) : Int)) ∧ R 13 = .slice (a) ((dltB w1 l2 l3 b (j)).length) (cap) ∧ H = ([(g2, .cells (bv (zB)) 35 (0, 0)), (g1, .cells (bv (b)) 35 (0, 0))] ++ (Hx) : Hp)) (w1.length - (0)) ?_ ?_
          ·
            refine ⟨0, ap5, gp5, capp5, Hp5, rfl, by omega, hvp5, rfl, rfl, rfl, rfl, rfl, rfl, rfl, (ie (a := 0) (b := ((0 : Nat) : Int)) (by omega)), rfl, rfl⟩
          ·
            rintro d1 R1 _ ⟨j, a, g, cap, Hx, hd1, hv1_0, hv1_1, h1_1, h1_2, h1_3, h1_9, h1_10, h1_47, h1_48, h1_49, h1_13, rfl⟩
            have hsl := dltB_le w1 l2 l3 b j
            have hol := hv1_1.le
            have hom := hv1_1.mx
            simp only [maxLen] at hom
            refine c_seq fun K19 hK19 => ?_
            refine c_region ?_
            refine o_y (v := .bool (decide (((j : Nat) : Int) < (((w1).length : Nat) : Int)))) rfl rfl (y_lss h1_49 h1_48 rfl) ?_
            refine o_nil ?_
            refine hK19 _ _ ?_
            refine c_seq fun K20 hK20 => ?_
            refine c_cond (t := decide (((j : Nat) : Int) < (((w1).length : Nat) : Int))) rfl (fun hc6 => ?_) (fun hc6 => ?_)
            ·
              replace hc6 := of_decide_eq_true hc6
              -- way FFFTLT
              refine c_skip ?_
              refine hK20 _ _ ?_
              refine c_seq fun K21 hK21 => ?_
              refine c_block ?_
              refine c_seq fun K22 hK22 => ?_
              refine c_region ?_
              refine o_y (v := .int .i64 (((j : Nat) : Int))) rfl rfl (y_move h1_49) ?_
              refine o_y (v := .pointer (some ⟨b1, o1 + j * 1, none⟩)) rfl rfl (y_ixO j (hs1.at_ (by omega)) h1_47 h1_49 Try.underlying22 s4 (by omega) (by first | omega | (simp; done) | (simp; omega))) ?_
              refine o_y (v := .bool ((w1)[j])) rfl rfl (y_load rfl Try.underlying4 rfl (SlG.rd (SlG.old hs1 (fun _ h => h)) j (by first | omega | (simp; done) | (simp; omega)))) ?_
              refine o_y (v := .int .i64 (((j : Nat) : Int))) rfl rfl (y_assign rfl) ?_
              refine o_y (v := .bool ((w1)[j])) rfl rfl (y_assign rfl) ?_
              refine o_nil ?_
              refine hK22 _ _ ?_
              refine c_seq fun K23 hK23 => ?_
              refine c_region ?_
              refine o_y (v := .bool ((w1)[j])) rfl rfl (y_move rfl) ?_
              refine o_nil ?_
              refine hK23 _ _ ?_
              refine c_cond (t := (w1)[j]) rfl (fun hc7 => ?_) (fun hc7 => ?_)
              ·
                -- way FFFTLTT
                refine c_drawF [0, 1, 2, 3, 4, 5, 6, 7, 8] [9, 10, 11] [1, 2, 3, 4, 5, 6, 7, 8] (by kernel_rfl) (by kernel_rfl) ?_
                refine f_l (v := .slice (a) ((dltB w1 l2 l3 b (j)).length) (cap)) rfl rfl (qn rfl (y_move h1_13)) ?_
                refine f_e (v := .slice (a2) ((l2).length) (cap2)) rfl rfl (qn rfl (y_move h1_2)) ?_
                refine f_e (v := .int .i64 (((j : Nat) : Int))) rfl rfl (qn rfl (y_move rfl)) ?_
                refine f_e (v := .pointer (some ⟨b2, o2 + j * 64, none⟩)) rfl rfl (qn rfl (y_ixO j (hs2.at_ (by omega)) rfl rfl Try.underlying33 s35 (by omega) (by first | omega | (simp; done) | (simp; omega)))) ?_
                refine f_e (v := .agg (bv ((l2)[j]))) rfl rfl (qn rfl (y_loadB T35 rfl (SlG.rd (SlG.old hs2 (fun _ h => h)) j (by first | omega | (simp; done) | (simp; omega))))) ?_
                refine f_e (v := .slice (a3) ((l3).length) (cap3)) rfl rfl (qn rfl (y_move h1_3)) ?_
                refine f_e (v := .int .i64 (((j : Nat) : Int))) rfl rfl (qn rfl (y_move rfl)) ?_
                refine f_e (v := .pointer (some ⟨b3, o3 + j * 64, none⟩)) rfl rfl (qn rfl (y_ixO j (hs3.at_ (by omega)) rfl rfl Try.underlying33 s35 (by omega) (by first | omega | (simp; done) | (simp; omega)))) ?_
                refine f_e (v := .agg (bv ((l3)[j]))) rfl rfl (qn rfl (y_loadB T35 rfl (SlG.rd (SlG.old hs3 (fun _ h => h)) j (by first | omega | (simp; done) | (simp; omega))))) ?_
                refine f_nil ?_
                refine t_step rfl ?_
                refine o_buildRow SL33 ([(l2)[j], (l3)[j]] : List Blk) (fun x => .agg (bv x)) (fun _ => rfl) rfl rfl (by rw [Array.toList_map]; rfl) (by simp) (by simp [eBlk]) fun g6 cg6 hrg6 => ?_
                refine o_nil ⟨rfl, ⟨qn rfl (y_move h1_13), trivial⟩, ?_⟩
                refine t_step rfl ?_
                refine o_appendV SL33 ([(g6, .cells (cg6) 35 (0, 0)), (g2, .cells (bv (zB)) 35 (0, 0)), (g1, .cells (bv (b)) 35 (0, 0))]) (fun Hy => [(g6, .cells (cg6) 35 (0, 0)), (g2, .cells (bv (zB)) 35 (0, 0)), (g1, .cells (bv (b)) 35 (0, 0))] ++ (Hy)) rfl (fun Hy => by have h := List.perm_append_comm (l₁ := ([(g6, .cells (cg6) 35 (0, 0)), (g2, .cells (bv (zB)) 35 (0, 0)), (g1, .cells (bv (b)) 35 (0, 0))] : Hp)) (l₂ := Hy); first | exact h | simpa [Value.cells] using h) (by have h := List.perm_append_comm_assoc ([(g6, .cells (cg6) 35 (0, 0)), (g2, .cells (bv (zB)) 35 (0, 0)), (g1, .cells (bv (b)) 35 (0, 0))] : Hp) Hx ([] : Hp); first | exact h | simpa [Value.cells] using h) hv1_1 rfl (by first | omega | (simp; done) | (simp; omega)) rfl (by first | omega | (simp; done) | (simp; omega)) (SlG.row (k := 0) rfl hrg6) (by simp only [maxLen] <;> first | omega | (simp; done) | (simp; omega)) (by first | omega | (simp; done) | (simp; omega)) fun ap8 gp8 capp8 Hp8 hvp8 => ?_
                have hqp8 := dltB_t (o := l2) (n := l3) (j := j) (w := w1) (p := b) (by omega) (by omega) (by omega) (by assumption)
                have hwp8 := hvp8
                rw [show (dltB w1 l2 l3 b (j)) ++ ([(l2)[j], (l3)[j]]) = dltB w1 l2 l3 b (j + 1) from hqp8] at hwp8
                refine o_nil ⟨rfl, ⟨qn rfl (y_move h1_13), trivial⟩, ?_⟩
                refine t_step rfl ?_
                refine o_y (v := .slice (ap8) (((dltB w1 l2 l3 b (j)).length) + 2) (capp8)) rfl rfl (y_assign rfl) ?_
                refine o_nil ⟨rfl, ⟨qn rfl (y_move h1_13), trivial⟩, ?_⟩
                refine t_nil ?_
                refine hK21 _ _ ?_
                refine c_region ?_
                refine o_y (v := .int .i64 ((((j : Nat) : Int)) + 1)) rfl rfl (y_add h1_49 rfl (wi_i64 (by omega) (by omega))) ?_
                refine o_y (v := .int .i64 ((((j : Nat) : Int)) + 1)) rfl rfl (y_move rfl) ?_
                refine o_forget (H' := [(g2, .cells (bv (zB)) 35 (0, 0)), (g1, .cells (bv (b)) 35 (0, 0))] ++ (Hp8)) ((((List.Sublist.refl _).cons_cons _).cons_cons _).cons _) ?_
                refine o_nil ?_
                refine ⟨_, by omega, j + 1, ap8, gp8, capp8, Hp8, rfl, by omega, hwp8, h1_1, h1_2, h1_3, h1_9, h1_10, h1_47, h1_48, (ie (a := (((j : Nat) : Int)) + 1) (b := ((j + 1 : Nat) : Int)) (by omega)), (len_eq (by have h := congrArg List.length hqp8; simpa using h)), rfl⟩
              ·
                -- way FFFTLTF
                refine c_skip ?_
                refine hK21 _ _ ?_
                refine c_region ?_
                refine o_y (v := .int .i64 ((((j : Nat) : Int)) + 1)) rfl rfl (y_add h1_49 rfl (wi_i64 (by omega) (by omega))) ?_
                refine o_y (v := .int .i64 ((((j : Nat) : Int)) + 1)) rfl rfl (y_move rfl) ?_
                refine o_nil ?_
                refine ⟨_, by omega, j + 1, a, g, cap, Hx, rfl, by omega, (by rw [dltB_f (by omega) (by assumption)]; exact hv1_1), h1_1, h1_2, h1_3, h1_9, h1_10, h1_47, h1_48, (ie (a := (((j : Nat) : Int)) + 1) (b := ((j + 1 : Nat) : Int)) (by omega)), (by rw [dltB_f (by omega) (by assumption)]; assumption), rfl⟩
            ·
              replace hc6 := of_decide_eq_false hc6
              -- way FFFTLF
              refine c_exit ?_
              refine hK16 _ _ ?_
              refine c_exit ?_
              refine hK7 _ _ ?_
              refine c_seq fun K24 hK24 => ?_
              refine c_region ?_
              refine o_y (v := .slice (a) ((dltB w1 l2 l3 b (j)).length) (cap)) rfl rfl (y_move h1_13) ?_
              refine o_y (v := .agg (bv (foldB (dltB w1 l2 l3 b (j))))) rfl rfl (y_call (vs := [.slice (a) ((dltB w1 l2 l3 b (j)).length) (cap)]) b22 rfl (fun w hw => f22_fold (dltB w1 l2 l3 b (j)) _ _ _ _ _ w (by first | rfl | (simp; done) | (simp; omega) | omega) ((SlG.own hv1_1 (fun p hp => (List.mem_cons_of_mem _ (List.mem_cons_of_mem _ hp)))) w hw))) ?_
              refine o_storeB (H' := [(g2, .cells (bv (foldB (dltB w1 l2 l3 b (j)))) 35 (0, 0)), (g1, .cells (bv (b)) 35 (0, 0))] ++ (Hx)) T35 0 h1_10 rfl rfl rfl ?_
              refine o_y (v := .int .i64 (0)) rfl rfl (y_assign rfl) ?_
              refine o_nil ?_
              refine hK24 _ _ ?_
              refine c_ret ?_
              refine fun w hw => ⟨[.agg (bv (foldB (dltB w1 l2 l3 b (j)))), .int .i64 (0)], ⟨⟨_, h1_10, loadB T35 ((Rd.whole (k := 0) rfl) w hw)⟩, rfl, trivial⟩, ?_⟩
              obtain rfl : j = w1.length := by omega
              rw [parB, parE, par_4 (show ¬ badP w1 l2 l3 by unfold badP; omega) (by omega)]
              first | done | rfl
        ·
          replace hc4 := of_decide_eq_false hc4
          -- way FFFF
          refine c_skip ?_
          refine hK14 _ _ ?_
          refine c_seq fun K25 hK25 => ?_
          refine c_seq fun K26 hK26 => ?_
          refine c_region ?_
          refine o_y (v := .bool (decide (way = 2))) rfl rfl (y_eql rfl rfl rfl) ?_
          refine o_y (v := .bool (decide (way = 2))) rfl rfl (y_assign rfl) ?_
          refine o_nil ?_
          refine hK26 _ _ ?_
          refine c_cond (t := decide (way = 2)) rfl (fun hc9 => ?_) (fun hc9 => ?_)
          ·
            replace hc9 := of_decide_eq_true hc9
            -- way FFFFT
            refine c_exit ?_
            refine hK11 _ _ ?_
            refine c_region ?_
            refine o_y (v := .slice (a3) ((l3).length) (cap3)) rfl rfl (y_move rfl) ?_
            refine o_y (v := .slice (a3) ((l3).length) (cap3)) rfl rfl (y_assign rfl) ?_
            refine o_nil ?_
            refine hK10 _ _ ?_
            refine c_seq fun K27 hK27 => ?_
            refine c_seq fun K28 hK28 => ?_
            refine c_region ?_
            refine o_y (v := .slice (a1) ((w1).length) (cap1)) rfl rfl (y_move rfl) ?_
            refine o_y (v := .int .i64 ((((w1).length : Nat) : Int))) rfl rfl (y_len rfl Try.underlying22) ?_
            refine o_y (v := .int .i64 (0)) rfl rfl (y_move rfl) ?_
            refine o_nil ?_
            refine hK28 _ _ ?_
            refine c_block ?_
            refine c_loop (fun d R H => ∃ (j : Nat) (a : Option Addr) (g : Nat) (cap : Nat) (Hx : Hp), d = w1.length - (j) ∧ (j ≤ w1.length) ∧ (OwnV eBlk 35 (mixL w1 l3 l3 (j)) a g cap Hx) ∧ R 1 = .slice (a1) ((w1).length) (cap1) ∧ R 2 = .slice (a3) ((l3).length) (cap3) ∧ R 3 = .slice (a3) ((l3).length) (cap3) ∧ R 9 = .pointer (some ⟨g1, 0, none⟩) ∧ R 10 = .pointer (some ⟨g2, 0, none⟩) ∧ R 68 = .slice (a1) ((w1).length) (cap1) ∧ R 69 = .int .i64 ((((w1).length : Nat) : Int)) ∧ R 70 = .int .i64 (((j : Nat) : Int)) ∧ R 13 = .slice (a) ((mixL w1 l3 l3 (j)).length) (cap) ∧ H = ([(g2, .cells (bv (zB)) 35 (0, 0)), (g1, .cells (bv (b)) 35 (0, 0))] ++ (Hx) : Hp)) (w1.length - (0)) ?_ ?_
            ·
              refine ⟨0, none, 0, 0, [], rfl, by omega, OwnV.none', rfl, rfl, rfl, rfl, rfl, rfl, rfl, (ie (a := 0) (b := ((0 : Nat) : Int)) (by omega)), rfl, ?_⟩
              simp [Value.cells]; first | done | rfl
            ·
              rintro d2 R2 _ ⟨j, a, g, cap, Hx, hd2, hv2_0, hv2_1, h2_1, h2_2, h2_3, h2_9, h2_10, h2_68, h2_69, h2_70, h2_13, rfl⟩
              have hsl := mixL_len w1 l3 l3 j
              have hol := hv2_1.le
              have hom := hv2_1.mx
              simp only [maxLen] at hom
              refine c_seq fun K29 hK29 => ?_
              refine c_region ?_
              refine o_y (v := .bool (decide (((j : Nat) : Int) < (((w1).length : Nat) : Int)))) rfl rfl (y_lss h2_70 h2_69 rfl) ?_
              refine o_nil ?_
              refine hK29 _ _ ?_
              refine c_seq fun K30 hK30 => ?_
              refine c_cond (t := decide (((j : Nat) : Int) < (((w1).length : Nat) : Int))) rfl (fun hc10 => ?_) (fun hc10 => ?_)
              ·
                replace hc10 := of_decide_eq_true hc10
                -- way FFFFTLT
                refine c_skip ?_
                refine hK30 _ _ ?_
                refine c_seq fun K31 hK31 => ?_
                refine c_block ?_
                refine c_seq fun K32 hK32 => ?_
                refine c_region ?_
                refine o_y (v := .int .i64 (((j : Nat) : Int))) rfl rfl (y_move h2_70) ?_
                refine o_y (v := .pointer (some ⟨b1, o1 + j * 1, none⟩)) rfl rfl (y_ixO j (hs1.at_ (by omega)) h2_68 h2_70 Try.underlying22 s4 (by omega) (by first | omega | (simp; done) | (simp; omega))) ?_
                refine o_y (v := .bool ((w1)[j])) rfl rfl (y_load rfl Try.underlying4 rfl (SlG.rd (SlG.old hs1 (fun _ h => h)) j (by first | omega | (simp; done) | (simp; omega)))) ?_
                refine o_y (v := .int .i64 (((j : Nat) : Int))) rfl rfl (y_assign rfl) ?_
                refine o_y (v := .bool ((w1)[j])) rfl rfl (y_assign rfl) ?_
                refine o_nil ?_
                refine hK32 _ _ ?_
                refine c_seq fun K33 hK33 => ?_
                refine c_region ?_
                refine o_y (v := .bool ((w1)[j])) rfl rfl (y_move rfl) ?_
                refine o_nil ?_
                refine hK33 _ _ ?_
                refine c_cond (t := (w1)[j]) rfl (fun hc11 => ?_) (fun hc11 => ?_)
                ·
                  -- way FFFFTLTT
                  refine c_region ?_
                  refine o_y (v := .slice (a) ((mixL w1 l3 l3 (j)).length) (cap)) rfl rfl (y_move h2_13) ?_
                  refine o_y (v := .slice (a3) ((l3).length) (cap3)) rfl rfl (y_move h2_3) ?_
                  refine o_y (v := .int .i64 (((j : Nat) : Int))) rfl rfl (y_move rfl) ?_
                  refine o_y (v := .pointer (some ⟨b3, o3 + j * 64, none⟩)) rfl rfl (y_ixO j (hs3.at_ (by omega)) rfl rfl Try.underlying33 s35 (by omega) (by first | omega | (simp; done) | (simp; omega))) ?_
                  refine o_y (v := .agg (bv ((l3)[j]))) rfl rfl (y_loadB T35 rfl (SlG.rd (SlG.old hs3 (fun _ h => h)) j (by first | omega | (simp; done) | (simp; omega)))) ?_
                  refine o_buildRow SL33 ([(l3)[j]] : List Blk) (fun x => .agg (bv x)) (fun _ => rfl) rfl rfl (by rw [Array.toList_map]; rfl) (by simp) (by simp [eBlk]) fun g9 cg9 hrg9 => ?_
                  refine o_appendV SL33 ([(g9, .cells (cg9) 35 (0, 0)), (g2, .cells (bv (zB)) 35 (0, 0)), (g1, .cells (bv (b)) 35 (0, 0))]) (fun Hy => [(g9, .cells (cg9) 35 (0, 0)), (g2, .cells (bv (zB)) 35 (0, 0)), (g1, .cells (bv (b)) 35 (0, 0))] ++ (Hy)) rfl (fun Hy => by have h := List.perm_append_comm (l₁ := ([(g9, .cells (cg9) 35 (0, 0)), (g2, .cells (bv (zB)) 35 (0, 0)), (g1, .cells (bv (b)) 35 (0, 0))] : Hp)) (l₂ := Hy); first | exact h | simpa [Value.cells] using h) (by have h := List.perm_append_comm_assoc ([(g9, .cells (cg9) 35 (0, 0)), (g2, .cells (bv (zB)) 35 (0, 0)), (g1, .cells (bv (b)) 35 (0, 0))] : Hp) Hx ([] : Hp); first | exact h | simpa [Value.cells] using h) hv2_1 rfl (by first | omega | (simp; done) | (simp; omega)) rfl (by first | omega | (simp; done) | (simp; omega)) (SlG.row (k := 0) rfl hrg9) (by simp only [maxLen] <;> first | omega | (simp; done) | (simp; omega)) (by first | omega | (simp; done) | (simp; omega)) fun ap11 gp11 capp11 Hp11 hvp11 => ?_
                  have hqp11 := mixL_t (o := l3) (n := l3) (j := j) (w := w1) (by omega) (by omega) (by assumption)
                  have hwp11 := hvp11
                  rw [show (mixL w1 l3 l3 (j)) ++ ([(l3)[j]]) = mixL w1 l3 l3 (j + 1) from hqp11] at hwp11
                  refine o_y (v := .slice (ap11) (((mixL w1 l3 l3 (j)).length) + 1) (capp11)) rfl rfl (y_assign rfl) ?_
                  refine o_nil ?_
                  refine hK31 _ _ ?_
                  refine c_region ?_
                  refine o_y (v := .int .i64 ((((j : Nat) : Int)) + 1)) rfl rfl (y_add h2_70 rfl (wi_i64 (by omega) (by omega))) ?_
                  refine o_y (v := .int .i64 ((((j : Nat) : Int)) + 1)) rfl rfl (y_move rfl) ?_
                  refine o_forget (H' := [(g2, .cells (bv (zB)) 35 (0, 0)), (g1, .cells (bv (b)) 35 (0, 0))] ++ (Hp11)) ((((List.Sublist.refl _).cons_cons _).cons_cons _).cons _) ?_
                  refine o_nil ?_
                  refine ⟨_, by omega, j + 1, ap11, gp11, capp11, Hp11, rfl, by omega, hwp11, h2_1, h2_2, h2_3, h2_9, h2_10, h2_68, h2_69, (ie (a := (((j : Nat) : Int)) + 1) (b := ((j + 1 : Nat) : Int)) (by omega)), (len_eq (by have h := congrArg List.length hqp11; simpa using h)), rfl⟩
                ·
                  -- way FFFFTLTF
                  refine c_region ?_
                  refine o_y (v := .slice (a) ((mixL w1 l3 l3 (j)).length) (cap)) rfl rfl (y_move h2_13) ?_
                  refine o_y (v := .slice (a3) ((l3).length) (cap3)) rfl rfl (y_move h2_2) ?_
                  refine o_y (v := .int .i64 (((j : Nat) : Int))) rfl rfl (y_move rfl) ?_
                  refine o_y (v := .pointer (some ⟨b3, o3 + j * 64, none⟩)) rfl rfl (y_ixO j (hs3.at_ (by omega)) rfl rfl Try.underlying33 s35 (by omega) (by first | omega | (simp; done) | (simp; omega))) ?_
                  refine o_y (v := .agg (bv ((l3)[j]))) rfl rfl (y_loadB T35 rfl (SlG.rd (SlG.old hs3 (fun _ h => h)) j (by first | omega | (simp; done) | (simp; omega)))) ?_
                  refine o_buildRow SL33 ([(l3)[j]] : List Blk) (fun x => .agg (bv x)) (fun _ => rfl) rfl rfl (by rw [Array.toList_map]; rfl) (by simp) (by simp [eBlk]) fun g12 cg12 hrg12 => ?_
                  refine o_appendV SL33 ([(g12, .cells (cg12) 35 (0, 0)), (g2, .cells (bv (zB)) 35 (0, 0)), (g1, .cells (bv (b)) 35 (0, 0))]) (fun Hy => [(g12, .cells (cg12) 35 (0, 0)), (g2, .cells (bv (zB)) 35 (0, 0)), (g1, .cells (bv (b)) 35 (0, 0))] ++ (Hy)) rfl (fun Hy => by have h := List.perm_append_comm (l₁ := ([(g12, .cells (cg12) 35 (0, 0)), (g2, .cells (bv (zB)) 35 (0, 0)), (g1, .cells (bv (b)) 35 (0, 0))] : Hp)) (l₂ := Hy); first | exact h | simpa [Value.cells] using h) (by have h := List.perm_append_comm_assoc ([(g12, .cells (cg12) 35 (0, 0)), (g2, .cells (bv (zB)) 35 (0, 0)), (g1, .cells (bv (b)) 35 (0, 0))] : Hp) Hx ([] : Hp); first | exact h | simpa [Value.cells] using h) hv2_1 rfl (by first | omega | (simp; done) | (simp; omega)) rfl (by first | omega | (simp; done) | (simp; omega)) (SlG.row (k := 0) rfl hrg12) (by simp only [maxLen] <;> first | omega | (simp; done) | (simp; omega)) (by first | omega | (simp; done) | (simp; omega)) fun ap14 gp14 capp14 Hp14 hvp14 => ?_
                  have hqp14 := mixL_f (o := l3) (n := l3) (j := j) (w := w1) (by omega) (by omega) (by assumption)
                  have hwp14 := hvp14
                  rw [show (mixL w1 l3 l3 (j)) ++ ([(l3)[j]]) = mixL w1 l3 l3 (j + 1) from hqp14] at hwp14
                  refine o_y (v := .slice (ap14) (((mixL w1 l3 l3 (j)).length) + 1) (capp14)) rfl rfl (y_assign rfl) ?_
                  refine o_nil ?_
                  refine hK31 _ _ ?_
                  refine c_region ?_
                  refine o_y (v := .int .i64 ((((j : Nat) : Int)) + 1)) rfl rfl (y_add h2_70 rfl (wi_i64 (by omega) (by omega))) ?_
                  refine o_y (v := .int .i64 ((((j : Nat) : Int)) + 1)) rfl rfl (y_move rfl) ?_
                  refine o_forget (H' := [(g2, .cells (bv (zB)) 35 (0, 0)), (g1, .cells (bv (b)) 35 (0, 0))] ++ (Hp14)) ((((List.Sublist.refl _).cons_cons _).cons_cons _).cons _) ?_
                  refine o_nil ?_
                  refine ⟨_, by omega, j + 1, ap14, gp14, capp14, Hp14, rfl, by omega, hwp14, h2_1, h2_2, h2_3, h2_9, h2_10, h2_68, h2_69, (ie (a := (((j : Nat) : Int)) + 1) (b := ((j + 1 : Nat) : Int)) (by omega)), (len_eq (by have h := congrArg List.length hqp14; simpa using h)), rfl⟩
              ·
                replace hc10 := of_decide_eq_false hc10
                -- way FFFFTLF
                refine c_exit ?_
                refine hK27 _ _ ?_
                refine c_exit ?_
                refine hK7 _ _ ?_
                refine c_seq fun K34 hK34 => ?_
                refine c_region ?_
                refine o_y (v := .slice (a) ((mixL w1 l3 l3 (j)).length) (cap)) rfl rfl (y_move h2_13) ?_
                refine o_y (v := .agg (bv (foldB (mixL w1 l3 l3 (j))))) rfl rfl (y_call (vs := [.slice (a) ((mixL w1 l3 l3 (j)).length) (cap)]) b22 rfl (fun w hw => f22_fold (mixL w1 l3 l3 (j)) _ _ _ _ _ w (by first | rfl | (simp; done) | (simp; omega) | omega) ((SlG.own hv2_1 (fun p hp => (List.mem_cons_of_mem _ (List.mem_cons_of_mem _ hp)))) w hw))) ?_
                refine o_storeB (H' := [(g2, .cells (bv (foldB (mixL w1 l3 l3 (j)))) 35 (0, 0)), (g1, .cells (bv (b)) 35 (0, 0))] ++ (Hx)) T35 0 h2_10 rfl rfl rfl ?_
                refine o_y (v := .int .i64 (0)) rfl rfl (y_assign rfl) ?_
                refine o_nil ?_
                refine hK34 _ _ ?_
                refine c_ret ?_
                refine fun w hw => ⟨[.agg (bv (foldB (mixL w1 l3 l3 (j)))), .int .i64 (0)], ⟨⟨_, h2_10, loadB T35 ((Rd.whole (k := 0) rfl) w hw)⟩, rfl, trivial⟩, ?_⟩
                obtain rfl : j = w1.length := by omega
                rw [parB, parE, par_2 (show ¬ badP w1 l2 l3 by unfold badP; omega) (by omega), mixL_same (by omega) _ (Nat.le_refl _), List.take_of_length_le (by omega)]
                first | done | rfl
          ·
            replace hc9 := of_decide_eq_false hc9
            -- way FFFFF
            refine c_skip ?_
            refine hK25 _ _ ?_
            refine c_seq fun K35 hK35 => ?_
            refine c_region ?_
            refine o_y (v := .bool (decide (way = 3))) rfl rfl (y_eql rfl rfl rfl) ?_
            refine o_y (v := .bool (decide (way = 3))) rfl rfl (y_assign rfl) ?_
            refine o_nil ?_
            refine hK35 _ _ ?_
            refine c_cond (t := decide (way = 3)) rfl (fun hc14 => ?_) (fun hc14 => ?_)
            ·
              replace hc14 := of_decide_eq_true hc14
              -- way FFFFFT
              refine c_exit ?_
              refine hK10 _ _ ?_
              refine c_seq fun K36 hK36 => ?_
              refine c_seq fun K37 hK37 => ?_
              refine c_region ?_
              refine o_y (v := .slice (a1) ((w1).length) (cap1)) rfl rfl (y_move rfl) ?_
              refine o_y (v := .int .i64 ((((w1).length : Nat) : Int))) rfl rfl (y_len rfl Try.underlying22) ?_
              refine o_y (v := .int .i64 (0)) rfl rfl (y_move rfl) ?_
              refine o_nil ?_
              refine hK37 _ _ ?_
              refine c_block ?_
              refine c_loop (fun d R H => ∃ (j : Nat) (a : Option Addr) (g : Nat) (cap : Nat) (Hx : Hp), d = w1.length - (j) ∧ (j ≤ w1.length) ∧ (OwnV eBlk 35 (mixL w1 l2 l3 (j)) a g cap Hx) ∧ R 1 = .slice (a1) ((w1).length) (cap1) ∧ R 2 = .slice (a2) ((l2).length) (cap2) ∧ R 3 = .slice (a3) ((l3).length) (cap3) ∧ R 9 = .pointer (some ⟨g1, 0, none⟩) ∧ R 10 = .pointer (some ⟨g2, 0, none⟩) ∧ R 68 = .slice (a1) ((w1).length) (cap1) ∧ R 69 = .int .i64 ((((w1).length : Nat) : Int)) ∧ R 70 = .int .i64 (((j : Nat) : Int)) ∧ R 13 = .slice (a) ((mixL w1 l2 l3 (j)).length) (cap) ∧ H = ([(g2, .cells (bv (zB)) 35 (0, 0)), (g1, .cells (bv (b)) 35 (0, 0))] ++ (Hx) : Hp)) (w1.length - (0)) ?_ ?_
              ·
                refine ⟨0, none, 0, 0, [], rfl, by omega, OwnV.none', rfl, rfl, rfl, rfl, rfl, rfl, rfl, (ie (a := 0) (b := ((0 : Nat) : Int)) (by omega)), rfl, ?_⟩
                simp [Value.cells]; first | done | rfl
              ·
                rintro d3 R3 _ ⟨j, a, g, cap, Hx, hd3, hv3_0, hv3_1, h3_1, h3_2, h3_3, h3_9, h3_10, h3_68, h3_69, h3_70, h3_13, rfl⟩
                have hsl := mixL_len w1 l2 l3 j
                have hol := hv3_1.le
                have hom := hv3_1.mx
                simp only [maxLen] at hom
                refine c_seq fun K38 hK38 => ?_
                refine c_region ?_
                refine o_y (v := .bool (decide (((j : Nat) : Int) < (((w1).length : Nat) : Int)))) rfl rfl (y_lss h3_70 h3_69 rfl) ?_
                refine o_nil ?_
                refine hK38 _ _ ?_
                refine c_seq fun K39 hK39 => ?_
                refine c_cond (t := decide (((j : Nat) : Int) < (((w1).length : Nat) : Int))) rfl (fun hc15 => ?_) (fun hc15 => ?_)
                ·
                  replace hc15 := of_decide_eq_true hc15
                  -- way FFFFFTLT
                  refine c_skip ?_
                  refine hK39 _ _ ?_
                  refine c_seq fun K40 hK40 => ?_
                  refine c_block ?_
                  refine c_seq fun K41 hK41 => ?_
                  refine c_region ?_
                  refine o_y (v := .int .i64 (((j : Nat) : Int))) rfl rfl (y_move h3_70) ?_
                  refine o_y (v := .pointer (some ⟨b1, o1 + j * 1, none⟩)) rfl rfl (y_ixO j (hs1.at_ (by omega)) h3_68 h3_70 Try.underlying22 s4 (by omega) (by first | omega | (simp; done) | (simp; omega))) ?_
                  refine o_y (v := .bool ((w1)[j])) rfl rfl (y_load rfl Try.underlying4 rfl (SlG.rd (SlG.old hs1 (fun _ h => h)) j (by first | omega | (simp; done) | (simp; omega)))) ?_
                  refine o_y (v := .int .i64 (((j : Nat) : Int))) rfl rfl (y_assign rfl) ?_
                  refine o_y (v := .bool ((w1)[j])) rfl rfl (y_assign rfl) ?_
                  refine o_nil ?_
                  refine hK41 _ _ ?_
                  refine c_seq fun K42 hK42 => ?_
                  refine c_region ?_
                  refine o_y (v := .bool ((w1)[j])) rfl rfl (y_move rfl) ?_
                  refine o_nil ?_
                  refine hK42 _ _ ?_
                  refine c_cond (t := (w1)[j]) rfl (fun hc16 => ?_) (fun hc16 => ?_)
                  ·
                    -- way FFFFFTLTT
                    refine c_region ?_
                    refine o_y (v := .slice (a) ((mixL w1 l2 l3 (j)).length) (cap)) rfl rfl (y_move h3_13) ?_
                    refine o_y (v := .slice (a3) ((l3).length) (cap3)) rfl rfl (y_move h3_3) ?_
                    refine o_y (v := .int .i64 (((j : Nat) : Int))) rfl rfl (y_move rfl) ?_
                    refine o_y (v := .pointer (some ⟨b3, o3 + j * 64, none⟩)) rfl rfl (y_ixO j (hs3.at_ (by omega)) rfl rfl Try.underlying33 s35 (by omega) (by first | omega | (simp; done) | (simp; omega))) ?_
                    refine o_y (v := .agg (bv ((l3)[j]))) rfl rfl (y_loadB T35 rfl (SlG.rd (SlG.old hs3 (fun _ h => h)) j (by first | omega | (simp; done) | (simp; omega)))) ?_
                    refine o_buildRow SL33 ([(l3)[j]] : List Blk) (fun x => .agg (bv x)) (fun _ => rfl) rfl rfl (by rw [Array.toList_map]; rfl) (by simp) (by simp [eBlk]) fun g15 cg15 hrg15 => ?_
                    refine o_appendV SL33 ([(g15, .cells (cg15) 35 (0, 0)), (g2, .cells (bv (zB)) 35 (0, 0)), (g1, .cells (bv (b)) 35 (0, 0))]) (fun Hy => [(g15, .cells (cg15) 35 (0, 0)), (g2, .cells (bv (zB)) 35 (0, 0)), (g1, .cells (bv (b)) 35 (0, 0))] ++ (Hy)) rfl (fun Hy => by have h := List.perm_append_comm (l₁ := ([(g15, .cells (cg15) 35 (0, 0)), (g2, .cells (bv (zB)) 35 (0, 0)), (g1, .cells (bv (b)) 35 (0, 0))] : Hp)) (l₂ := Hy); first | exact h | simpa [Value.cells] using h) (by have h := List.perm_append_comm_assoc ([(g15, .cells (cg15) 35 (0, 0)), (g2, .cells (bv (zB)) 35 (0, 0)), (g1, .cells (bv (b)) 35 (0, 0))] : Hp) Hx ([] : Hp); first | exact h | simpa [Value.cells] using h) hv3_1 rfl (by first | omega | (simp; done) | (simp; omega)) rfl (by first | omega | (simp; done) | (simp; omega)) (SlG.row (k := 0) rfl hrg15) (by simp only [maxLen] <;> first | omega | (simp; done) | (simp; omega)) (by first | omega | (simp; done) | (simp; omega)) fun ap17 gp17 capp17 Hp17 hvp17 => ?_
                    have hqp17 := mixL_t (o := l2) (n := l3) (j := j) (w := w1) (by omega) (by omega) (by assumption)
                    have hwp17 := hvp17
                    rw [show (mixL w1 l2 l3 (j)) ++ ([(l3)[j]]) = mixL w1 l2 l3 (j + 1) from hqp17] at hwp17
                    refine o_y (v := .slice (ap17) (((mixL w1 l2 l3 (j)).length) + 1) (capp17)) rfl rfl (y_assign rfl) ?_
                    refine o_nil ?_
                    refine hK40 _ _ ?_
                    refine c_region ?_
                    refine o_y (v := .int .i64 ((((j : Nat) : Int)) + 1)) rfl rfl (y_add h3_70 rfl (wi_i64 (by omega) (by omega))) ?_
                    refine o_y (v := .int .i64 ((((j : Nat) : Int)) + 1)) rfl rfl (y_move rfl) ?_
                    refine o_forget (H' := [(g2, .cells (bv (zB)) 35 (0, 0)), (g1, .cells (bv (b)) 35 (0, 0))] ++ (Hp17)) ((((List.Sublist.refl _).cons_cons _).cons_cons _).cons _) ?_
                    refine o_nil ?_
                    refine ⟨_, by omega, j + 1, ap17, gp17, capp17, Hp17, rfl, by omega, hwp17, h3_1, h3_2, h3_3, h3_9, h3_10, h3_68, h3_69, (ie (a := (((j : Nat) : Int)) + 1) (b := ((j + 1 : Nat) : Int)) (by omega)), (len_eq (by have h := congrArg List.length hqp17; simpa using h)), rfl⟩
                  ·
                    -- way FFFFFTLTF
                    refine c_region ?_
                    refine o_y (v := .slice (a) ((mixL w1 l2 l3 (j)).length) (cap)) rfl rfl (y_move h3_13) ?_
                    refine o_y (v := .slice (a2) ((l2).length) (cap2)) rfl rfl (y_move h3_2) ?_
                    refine o_y (v := .int .i64 (((j : Nat) : Int))) rfl rfl (y_move rfl) ?_
                    refine o_y (v := .pointer (some ⟨b2, o2 + j * 64, none⟩)) rfl rfl (y_ixO j (hs2.at_ (by omega)) rfl rfl Try.underlying33 s35 (by omega) (by first | omega | (simp; done) | (simp; omega))) ?_
                    refine o_y (v := .agg (bv ((l2)[j]))) rfl rfl (y_loadB T35 rfl (SlG.rd (SlG.old hs2 (fun _ h => h)) j (by first | omega | (simp; done) | (simp; omega)))) ?_
                    refine o_buildRow SL33 ([(l2)[j]] : List Blk) (fun x => .agg (bv x)) (fun _ => rfl) rfl rfl (by rw [Array.toList_map]; rfl) (by simp) (by simp [eBlk]) fun g18 cg18 hrg18 => ?_
                    refine o_appendV SL33 ([(g18, .cells (cg18) 35 (0, 0)), (g2, .cells (bv (zB)) 35 (0, 0)), (g1, .cells (bv (b)) 35 (0, 0))]) (fun Hy => [(g18, .cells (cg18) 35 (0, 0)), (g2, .cells (bv (zB)) 35 (0, 0)), (g1, .cells (bv (b)) 35 (0, 0))] ++ (Hy)) rfl (fun Hy => by have h := List.perm_append_comm (l₁ := ([(g18, .cells (cg18) 35 (0, 0)), (g2, .cells (bv (zB)) 35 (0, 0)), (g1, .cells (bv (b)) 35 (0, 0))] : Hp)) (l₂ := Hy); first | exact h | simpa [Value.cells] using h) (by have h := List.perm_append_comm_assoc ([(g18, .cells (cg18) 35 (0, 0)), (g2, .cells (bv (zB)) 35 (0, 0)), (g1, .cells (bv (b)) 35 (0, 0))] : Hp) Hx ([] : Hp); first | exact h | simpa [Value.cells] using h) hv3_1 rfl (by first | omega | (simp; done) | (simp; omega)) rfl (by first | omega | (simp; done) | (simp; omega)) (SlG.row (k := 0) rfl hrg18) (by simp only [maxLen] <;> first | omega | (simp; done) | (simp; omega)) (by first | omega | (simp; done) | (simp; omega)) fun ap20 gp20 capp20 Hp20 hvp20 => ?_
                    have hqp20 := mixL_f (o := l2) (n := l3) (j := j) (w := w1) (by omega) (by omega) (by assumption)
                    have hwp20 := hvp20
                    rw [show (mixL w1 l2 l3 (j)) ++ ([(l2)[j]]) = mixL w1 l2 l3 (j + 1) from hqp20] at hwp20
                    refine o_y (v := .slice (ap20) (((mixL w1 l2 l3 (j)).length) + 1) (capp20)) rfl rfl (y_assign rfl) ?_
                    refine o_nil ?_
                    refine hK40 _ _ ?_
                    refine c_region ?_
                    refine o_y (v := .int .i64 ((((j : Nat) : Int)) + 1)) rfl rfl (y_add h3_70 rfl (wi_i64 (by omega) (by omega))) ?_
                    refine o_y (v := .int .i64 ((((j : Nat) : Int)) + 1)) rfl rfl (y_move rfl) ?_
                    refine o_forget (H' := [(g2, .cells (bv (zB)) 35 (0, 0)), (g1, .cells (bv (b)) 35 (0, 0))] ++ (Hp20)) ((((List.Sublist.refl _).cons_cons _).cons_cons _).cons _) ?_
                    refine o_nil ?_
                    refine ⟨_, by omega, j + 1, ap20, gp20, capp20, Hp20, rfl, by omega, hwp20, h3_1, h3_2, h3_3, h3_9, h3_10, h3_68, h3_69, (ie (a := (((j : Nat) : Int)) + 1) (b := ((j + 1 : Nat) : Int)) (by omega)), (len_eq (by have h := congrArg List.length hqp20; simpa using h)), rfl⟩
                ·
                  replace hc15 := of_decide_eq_false hc15
                  -- way FFFFFTLF
                  refine c_exit ?_
                  refine hK36 _ _ ?_
                  refine c_exit ?_
                  refine hK7 _ _ ?_
                  refine c_seq fun K43 hK43 => ?_
                  refine c_region ?_
                  refine o_y (v := .slice (a) ((mixL w1 l2 l3 (j)).length) (cap)) rfl rfl (y_move h3_13) ?_
                  refine o_y (v := .agg (bv (foldB (mixL w1 l2 l3 (j))))) rfl rfl (y_call (vs := [.slice (a) ((mixL w1 l2 l3 (j)).length) (cap)]) b22 rfl (fun w hw => f22_fold (mixL w1 l2 l3 (j)) _ _ _ _ _ w (by first | rfl | (simp; done) | (simp; omega) | omega) ((SlG.own hv3_1 (fun p hp => (List.mem_cons_of_mem _ (List.mem_cons_of_mem _ hp)))) w hw))) ?_
                  refine o_storeB (H' := [(g2, .cells (bv (foldB (mixL w1 l2 l3 (j)))) 35 (0, 0)), (g1, .cells (bv (b)) 35 (0, 0))] ++ (Hx)) T35 0 h3_10 rfl rfl rfl ?_
                  refine o_y (v := .int .i64 (0)) rfl rfl (y_assign rfl) ?_
                  refine o_nil ?_
                  refine hK43 _ _ ?_
                  refine c_ret ?_
                  refine fun w hw => ⟨[.agg (bv (foldB (mixL w1 l2 l3 (j)))), .int .i64 (0)], ⟨⟨_, h3_10, loadB T35 ((Rd.whole (k := 0) rfl) w hw)⟩, rfl, trivial⟩, ?_⟩
                  obtain rfl : j = w1.length := by omega
                  rw [parB, parE, par_3 (show ¬ badP w1 l2 l3 by unfold badP; omega) (by omega)]
                  first | done | rfl
            ·
              replace hc14 := of_decide_eq_false hc14
              -- way FFFFFF
              refine c_skip ?_
              refine hK13 _ _ ?_
              refine c_exit ?_
              refine hK9 _ _ ?_
              refine c_seq fun K44 hK44 => ?_
              refine c_seq fun K45 hK45 => ?_
              refine c_region ?_
              refine o_y (v := .agg (bv (zB))) rfl rfl (y_build rfl (by kernel_rfl)) ?_
              refine o_storeB (H' := [(g2, .cells (bv (zB)) 35 (0, 0)), (g1, .cells (bv (b)) 35 (0, 0))]) T35 0 rfl rfl rfl rfl ?_
              refine o_y (v := .int .i64 (2)) rfl rfl (y_assign rfl) ?_
              refine o_nil ?_
              refine hK45 _ _ ?_
              refine c_ret ?_
              refine fun w hw => ⟨[.agg (bv (zB)), .int .i64 (2)], ⟨⟨_, rfl, loadB T35 ((Rd.whole (k := 0) rfl) w hw)⟩, rfl, trivial⟩, ?_⟩
              by_cases hbad : badP w1 l2 l3
              · have hq := par_bad (way := way) (p := b) hbad
                rw [parB, parE, hq]
                rfl
              · have hq := par_none (way := way) (p := b) hbad (by unfold badP at hbad; omega) (by unfold badP at hbad; omega) (by unfold badP at hbad; omega)
                rw [parB, parE, hq]
                rfl
    ·
      have hc2' := of_decide_eq_true hc2
      -- way FT
      refine o_guard (j := 9) (d := 29) (b := true) rfl rfl rfl (fun h => by cases h) rfl (fun _ => ?_)
      refine o_guard (j := 9) (d := 29) (b := true) rfl rfl rfl (fun h => by cases h) rfl (fun _ => ?_)
      refine o_guard (j := 9) (d := 29) (b := true) rfl rfl rfl (fun h => by cases h) rfl (fun _ => ?_)
      refine o_guard (j := 9) (d := 29) (b := true) rfl rfl rfl (fun h => by cases h) rfl (fun _ => ?_)
      refine o_y (v := .bool (true)) rfl rfl (y_pick (b := true) rfl rfl) ?_
      refine o_nil ?_
      refine hK4 _ _ ?_
      refine c_cond (t := true) rfl (fun _ => ?_) (fun h => by cases h)
      refine c_seq fun K46 hK46 => ?_
      refine c_region ?_
      refine o_y (v := .agg (bv (zB))) rfl rfl (y_build rfl (by kernel_rfl)) ?_
      refine o_storeB (H' := [(g2, .cells (bv (zB)) 35 (0, 0)), (g1, .cells (bv (b)) 35 (0, 0))]) T35 0 rfl rfl rfl rfl ?_
      refine o_y (v := .int .i64 (2)) rfl rfl (y_assign rfl) ?_
      refine o_nil ?_
      refine hK46 _ _ ?_
      refine c_ret ?_
      refine fun w hw => ⟨[.agg (bv (zB)), .int .i64 (2)], ⟨⟨_, rfl, loadB T35 ((Rd.whole (k := 0) rfl) w hw)⟩, rfl, trivial⟩, ?_⟩
      by_cases hbad : badP w1 l2 l3
      · have hq := par_bad (way := way) (p := b) hbad
        rw [parB, parE, hq]
        rfl
      · have hq := par_none (way := way) (p := b) hbad (by unfold badP at hbad; omega) (by unfold badP at hbad; omega) (by unfold badP at hbad; omega)
        rw [parB, parE, hq]
        rfl
  ·
    have hc1' := hc1
    simp only [Bool.not_eq_true', Bool.not_eq_false', decide_eq_true_eq, decide_eq_false_iff_not] at hc1'
    -- way T
    refine o_guard (j := 3) (d := 23) (b := true) rfl rfl rfl (fun h => by cases h) rfl (fun _ => ?_)
    refine o_guard (j := 3) (d := 23) (b := true) rfl rfl rfl (fun h => by cases h) rfl (fun _ => ?_)
    refine o_guard (j := 3) (d := 23) (b := true) rfl rfl rfl (fun h => by cases h) rfl (fun _ => ?_)
    refine o_guard (j := 3) (d := 23) (b := true) rfl rfl rfl (fun h => by cases h) rfl (fun _ => ?_)
    refine o_y (v := .bool (true)) rfl rfl (y_pick (b := true) rfl rfl) ?_
    refine o_y (v := .bool (true)) rfl rfl (y_move rfl) ?_
    refine o_guard (j := 9) (d := 29) (b := true) rfl rfl rfl (fun h => by cases h) rfl (fun _ => ?_)
    refine o_guard (j := 9) (d := 29) (b := true) rfl rfl rfl (fun h => by cases h) rfl (fun _ => ?_)
    refine o_guard (j := 9) (d := 29) (b := true) rfl rfl rfl (fun h => by cases h) rfl (fun _ => ?_)
    refine o_guard (j := 9) (d := 29) (b := true) rfl rfl rfl (fun h => by cases h) rfl (fun _ => ?_)
    refine o_y (v := .bool (true)) rfl rfl (y_pick (b := true) rfl rfl) ?_
    refine o_nil ?_
    refine hK4 _ _ ?_
    refine c_cond (t := true) rfl (fun _ => ?_) (fun h => by cases h)
    refine c_seq fun K47 hK47 => ?_
    refine c_region ?_
    refine o_y (v := .agg (bv (zB))) rfl rfl (y_build rfl (by kernel_rfl)) ?_
    refine o_storeB (H' := [(g2, .cells (bv (zB)) 35 (0, 0)), (g1, .cells (bv (b)) 35 (0, 0))]) T35 0 rfl rfl rfl rfl ?_
    refine o_y (v := .int .i64 (2)) rfl rfl (y_assign rfl) ?_
    refine o_nil ?_
    refine hK47 _ _ ?_
    refine c_ret ?_
    refine fun w hw => ⟨[.agg (bv (zB)), .int .i64 (2)], ⟨⟨_, rfl, loadB T35 ((Rd.whole (k := 0) rfl) w hw)⟩, rfl, trivial⟩, ?_⟩
    by_cases hbad : badP w1 l2 l3
    · have hq := par_bad (way := way) (p := b) hbad
      rw [parB, parE, hq]
      rfl
    · have hq := par_none (way := way) (p := b) hbad (by unfold badP at hbad; omega) (by unfold badP at hbad; omega) (by unfold badP at hbad; omega)
      rw [parB, parE, hq]
      rfl

set_option maxRecDepth 100000 in
set_option maxHeartbeats 4000000 in
theorem f13_rParity (way : Int) (w1 : List Bool) (a1 : Option Addr) (b1 o1 cap1 m1 : Nat) (l2 : List Blk) (a2 : Option Addr) (b2 o2 cap2 m2 : Nat) (l3 : List Blk) (a3 : Option Addr) (b3 o3 cap3 m3 : Nat) (b : Blk) (w : World) (hm1 : m1 = w1.length) (hs1 : Sl eBool w w1 a1 b1 o1 cap1) (hm2 : m2 = l2.length) (hs2 : Sl eBlk w l2 a2 b2 o2 cap2) (hm3 : m3 = l3.length) (hs3 : Sl eBlk w l3 a3 b3 o3 cap3) :
    Calls Try.prog 13 [.int .u8 (way), .slice (a1) (m1) (cap1), .slice (a2) (m2) (cap2), .slice (a3) (m3) (cap3), .agg (bv (b))].toArray w fun e w' => e = .returned (.tuple #[.agg (bv (parB way w1 l2 l3 b)), .int .i64 (parE way w1 l2 l3 b)]) ∧ Below w.heap.size w w' := by
  subst hm1
  subst hm2
  subst hm3
  have hle1 := hs1.le
  have hle2 := hs2.le
  have hle3 := hs3.le
  have hmx1 := hs1.mx
  have hmx2 := hs2.mx
  have hmx3 := hs3.mx
  simp only [maxLen] at hmx1 hmx2 hmx3
  refine (calls_of (P := Try.prog) (n := 89) (w0 := w) (S := fun _ => False) (H := []) (T := fun v _ => v = (.tuple #[.agg (bv (parB way w1 l2 l3 b)), .int .i64 (parE way w1 l2 l3 b)])) Try.func13 rfl Try.ntmps13 (Nat.le_of_ble_eq_true rfl) [.cell 10 35, .tmp 11] rfl (St.nil w _) ?_).mono fun e w' ⟨v, H', he, hs, hT⟩ => ⟨by rw [he, hT], hs.below⟩
  refine c_seq fun K1 hK1 => ?_
  refine c_region ?_
  refine o_box (v := .agg (bv (b))) rfl rfl fun g1 => ?_
  refine o_alloc (z := .agg (bv (zB))) rfl z35 fun g2 => ?_
  refine o_y (v := .int .i64 (0)) rfl rfl (y_assign rfl) ?_
  refine o_nil ?_
  refine hK1 _ _ ?_
  refine c_seq fun K2 hK2 => ?_
  refine c_region ?_
  refine o_y (v := .slice (a1) ((w1).length) (cap1)) rfl rfl (y_move rfl) ?_
  refine o_y (v := .int .i64 ((((w1).length : Nat) : Int))) rfl rfl (y_len rfl Try.underlying22) ?_
  refine o_y (v := .int .i64 ((((w1).length : Nat) : Int))) rfl rfl (y_assign rfl) ?_
  refine o_nil ?_
  refine hK2 _ _ ?_
  refine c_seq fun K3 hK3 => ?_
  refine c_seq fun K4 hK4 => ?_
  refine c_region ?_
  refine o_y (v := .int .i64 ((((w1).length : Nat) : Int))) rfl rfl (y_move rfl) ?_
  refine o_y (v := .bool (decide ((((w1).length : Nat) : Int) < 2))) rfl rfl (y_lss rfl rfl rfl) ?_
  refine o_y (v := .bool (decide ((((w1).length : Nat) : Int) < 2))) rfl rfl (y_move rfl) ?_
  cases hc1 : (decide ((((w1).length : Nat) : Int) < 2) : Bool)
  ·
    have hc1' := of_decide_eq_false hc1
    -- way F
    refine o_guard (j := 2) (d := 20) (b := false) rfl rfl rfl (fun _ => ?_) rfl (fun h => by cases h)
    refine o_y (v := .int .i64 ((((w1).length : Nat) : Int))) rfl rfl (y_move rfl) ?_
    refine o_guard (j := 2) (d := 20) (b := false) rfl rfl rfl (fun _ => ?_) rfl (fun h => by cases h)
    refine o_y (v := .bool (decide (15 < (((w1).length : Nat) : Int)))) rfl rfl (y_gtr rfl rfl rfl) ?_
    refine o_y (v := .bool (decide (15 < (((w1).length : Nat) : Int)))) rfl rfl (y_pick (b := false) rfl rfl) ?_
    refine o_y (v := .bool (decide (15 < (((w1).length : Nat) : Int)))) rfl rfl (y_move rfl) ?_
    cases hc2 : (decide (15 < (((w1).length : Nat) : Int)) : Bool)
    ·
      have hc2' := of_decide_eq_false hc2
      -- way FF
      refine o_guard (j := 6) (d := 24) (b := false) rfl rfl rfl (fun _ => ?_) rfl (fun h => by cases h)
      refine o_y (v := .slice (a2) ((l2).length) (cap2)) rfl rfl (y_move rfl) ?_
      refine o_guard (j := 6) (d := 24) (b := false) rfl rfl rfl (fun _ => ?_) rfl (fun h => by cases h)
      refine o_y (v := .int .i64 ((((l2).length : Nat) : Int))) rfl rfl (y_len rfl Try.underlying33) ?_
      refine o_guard (j := 6) (d := 24) (b := false) rfl rfl rfl (fun _ => ?_) rfl (fun h => by cases h)
      refine o_y (v := .int .i64 ((((w1).length : Nat) : Int))) rfl rfl (y_move rfl) ?_
      refine o_guard (j := 6) (d := 24) (b := false) rfl rfl rfl (fun _ => ?_) rfl (fun h => by cases h)
      refine o_y (v := .bool (decide ((((l2).length : Nat) : Int) ≠ (((w1).length : Nat) : Int)))) rfl rfl (y_neq rfl rfl rfl) ?_
      refine o_y (v := .bool (decide ((((l2).length : Nat) : Int) ≠ (((w1).length : Nat) : Int)))) rfl rfl (y_pick (b := false) rfl rfl) ?_
      refine o_y (v := .bool (decide ((((l2).length : Nat) : Int) ≠ (((w1).length : Nat) : Int)))) rfl rfl (y_move rfl) ?_
      cases hc3 : (decide ((((l2).length : Nat) : Int) ≠ (((w1).length : Nat) : Int)) : Bool)
      ·
        have hc3' := of_decide_eq_false hc3
        -- way FFF
        refine o_guard (j := 12) (d := 30) (b := false) rfl rfl rfl (fun _ => ?_) rfl (fun h => by cases h)
        refine o_y (v := .slice (a3) ((l3).length) (cap3)) rfl rfl (y_move rfl) ?_
        refine o_guard (j := 12) (d := 30) (b := false) rfl rfl rfl (fun _ => ?_) rfl (fun h => by cases h)
        refine o_y (v := .int .i64 ((((l3).length : Nat) : Int))) rfl rfl (y_len rfl Try.underlying33) ?_
        refine o_guard (j := 12) (d := 30) (b := false) rfl rfl rfl (fun _ => ?_) rfl (fun h => by cases h)
        refine o_y (v := .int .i64 ((((w1).length : Nat) : Int))) rfl rfl (y_move rfl) ?_
        refine o_guard (j := 12) (d := 30) (b := false) rfl rfl rfl (fun _ => ?_) rfl (fun h => by cases h)
        refine o_y (v := .bool (decide ((((l3).length : Nat) : Int) ≠ (((w1).length : Nat) : Int)))) rfl rfl (y_neq rfl rfl rfl) ?_
        refine o_y (v := .bool (decide ((((l3).length : Nat) : Int) ≠ (((w1).length : Nat) : Int)))) rfl rfl (y_pick (b := false) rfl rfl) ?_
        refine o_nil ?_
        refine hK4 _ _ ?_
        refine c_cond (t := decide ((((l3).length : Nat) : Int) ≠ (((w1).length : Nat) : Int))) rfl (fun hc4 => ?_) (fun hc4 => ?_)
        ·
          replace hc4 := of_decide_eq_true hc4
          -- way FFFT
          refine c_seq fun K5 hK5 => ?_
          refine c_region ?_
          refine o_y (v := .agg (bv (zB))) rfl rfl (y_build rfl (by kernel_rfl)) ?_
          refine o_storeB (H' := [(g2, .cells (bv (zB)) 35 (0, 0)), (g1, .cells (bv (b)) 35 (0, 0))]) T35 0 rfl rfl rfl rfl ?_
          refine o_y (v := .int .i64 (2)) rfl rfl (y_assign rfl) ?_
          refine o_nil ?_
          refine hK5 _ _ ?_
          refine c_ret ?_
          refine fun w hw => ⟨[.agg (bv (zB)), .int .i64 (2)], ⟨⟨_, rfl, loadB T35 ((Rd.whole (k := 0) rfl) w hw)⟩, rfl, trivial⟩, ?_⟩
          by_cases hbad : badP w1 l2 l3
          · have hq := par_bad (way := way) (p := b) hbad
            rw [parB, parE, hq]
            rfl
          · have hq := par_none (way := way) (p := b) hbad (by unfold badP at hbad; omega) (by unfold badP at hbad; omega) (by unfold badP at hbad; omega)
            rw [parB, parE, hq]
            rfl
        ·
          replace hc4 := of_decide_eq_false hc4
          -- way FFFF
          refine c_skip ?_
          refine hK3 _ _ ?_
          refine c_seq fun K6 hK6 => ?_
          refine c_seq fun K7 hK7 => ?_
          refine c_region ?_
          refine o_y (v := .int .u8 (way)) rfl rfl (y_move rfl) ?_
          refine o_y (v := .bool (decide (way = 2))) rfl rfl (y_eql rfl rfl rfl) ?_
          refine o_nil ?_
          refine hK7 _ _ ?_
          refine c_cond (t := decide (way = 2)) rfl (fun hc5 => ?_) (fun hc5 => ?_)
          ·
            replace hc5 := of_decide_eq_true hc5
            -- way FFFFT
            refine c_seq fun K8 hK8 => ?_
            refine c_region ?_
            refine o_y (v := .slice (a3) ((l3).length) (cap3)) rfl rfl (y_move rfl) ?_
            refine o_y (v := .agg (bv (foldB (l3)))) rfl rfl (y_call (vs := [.slice (a3) ((l3).length) (cap3)]) b15 rfl (fun w hw => f15_rfold (l3) _ _ _ _ _ w (by first | rfl | (simp; done) | (simp; omega) | omega) ((SlG.old hs3 (fun _ h => h)) w hw))) ?_
            refine o_storeB (H' := [(g2, .cells (bv (foldB (l3))) 35 (0, 0)), (g1, .cells (bv (b)) 35 (0, 0))]) T35 0 rfl rfl rfl rfl ?_
            refine o_y (v := .int .i64 (0)) rfl rfl (y_assign rfl) ?_
            refine o_nil ?_
            refine hK8 _ _ ?_
            refine c_ret ?_
            refine fun w hw => ⟨[.agg (bv (foldB (l3))), .int .i64 (0)], ⟨⟨_, rfl, loadB T35 ((Rd.whole (k := 0) rfl) w hw)⟩, rfl, trivial⟩, ?_⟩
            rw [parB, parE, par_2 (show ¬ badP w1 l2 l3 by unfold badP; omega) (by omega)]
            first | done | rfl
          ·
            replace hc5 := of_decide_eq_false hc5
            -- way FFFFF
            refine c_skip ?_
            refine hK6 _ _ ?_
            refine c_seq fun K9 hK9 => ?_
            refine c_seq fun K10 hK10 => ?_
            refine c_region ?_
            refine o_y (v := .int .u8 (way)) rfl rfl (y_move rfl) ?_
            refine o_y (v := .bool (decide (way = 4))) rfl rfl (y_eql rfl rfl rfl) ?_
            refine o_nil ?_
            refine hK10 _ _ ?_
            refine c_cond (t := decide (way = 4)) rfl (fun hc6 => ?_) (fun hc6 => ?_)
            ·
              replace hc6 := of_decide_eq_true hc6
              -- way FFFFFT
              refine c_seq fun K11 hK11 => ?_
              refine c_seq fun K12 hK12 => ?_
              refine c_region ?_
              refine o_y (v := .int .i64 (0)) rfl rfl (y_assign rfl) ?_
              refine o_nil ?_
              refine hK12 _ _ ?_
              refine c_block ?_
              refine c_loop (fun d R H => ∃ (j : Nat), d = w1.length - (j) ∧ (j ≤ w1.length) ∧ R 1 = .slice (a1) ((w1).length) (cap1) ∧ R 2 = .slice (a2) ((l2).length) (cap2) ∧ R 3 = .slice (a3) ((l3).length) (cap3) ∧ R 9 = .pointer (some ⟨g1, 0, none⟩) ∧ R 10 = .pointer (some ⟨g2, 0, none⟩) ∧ R 12 = .int .i64 ((((w1).length : Nat) : Int)) ∧ R 13 = .int .i64 (((j : Nat) : Int)) ∧ H = ([(g2, .cells (bv (zB)) 35 (0, 0)), (g1, .cells (bv (foldB (dltB w1 l2 l3 b (j)))) 35 (0, 0))] : Hp)) (w1.length - (0)) ?_ ?_
              ·
                refine ⟨0, rfl, by omega, rfl, rfl, rfl, rfl, rfl, rfl, (ie (a := 0) (b := ((0 : Nat) : Int)) (by omega)), ?_⟩
                rw [fold_one]; first | done | rfl
              ·
                rintro d1 R1 _ ⟨j, hd1, hv1_0, h1_1, h1_2, h1_3, h1_9, h1_10, h1_12, h1_13, rfl⟩
                refine c_seq fun K13 hK13 => ?_
                refine c_seq fun K14 hK14 => ?_
                refine c_region ?_
                refine o_y (v := .int .i64 (((j : Nat) : Int))) rfl rfl (y_move h1_13) ?_
                refine o_y (v := .int .i64 ((((w1).length : Nat) : Int))) rfl rfl (y_move h1_12) ?_
                refine o_y (v := .bool (decide (((j : Nat) : Int) < (((w1).length : Nat) : Int)))) rfl rfl (y_lss rfl rfl rfl) ?_
                refine o_nil ?_
                refine hK14 _ _ ?_
                refine c_cond (t := decide (((j : Nat) : Int) < (((w1).length : Nat) : Int))) rfl (fun hc7 => ?_) (fun hc7 => ?_)
                ·
                  replace hc7 := of_decide_eq_true hc7
                  -- way FFFFFTLT
                  refine c_skip ?_
                  refine hK13 _ _ ?_
                  refine c_seq fun K15 hK15 => ?_
                  refine c_block ?_
                  refine c_seq fun K16 hK16 => ?_
                  refine c_region ?_
                  refine o_y (v := .slice (a1) ((w1).length) (cap1)) rfl rfl (y_move h1_1) ?_
                  refine o_y (v := .int .i64 (((j : Nat) : Int))) rfl rfl (y_move h1_13) ?_
                  refine o_y (v := .pointer (some ⟨b1, o1 + j * 1, none⟩)) rfl rfl (y_ixO j (hs1.at_ (by omega)) rfl rfl Try.underlying22 s4 (by omega) (by first | omega | (simp; done) | (simp; omega))) ?_
                  refine o_y (v := .bool ((w1)[j])) rfl rfl (y_load rfl Try.underlying4 rfl (SlG.rd (SlG.old hs1 (fun _ h => h)) j (by first | omega | (simp; done) | (simp; omega)))) ?_
                  refine o_nil ?_
                  refine hK16 _ _ ?_
                  refine c_cond (t := (w1)[j]) rfl (fun hc8 => ?_) (fun hc8 => ?_)
                  ·
                    -- way FFFFFTLTT
                    refine c_draw 11 (by kernel_rfl) (by kernel_rfl) ?_
                    refine q_y (v := .agg (bv (foldB (dltB w1 l2 l3 b (j))))) rfl (y_loadB T35 h1_9 (Rd.whole (k := 1) rfl)) ?_
                    refine q_y (v := .slice (a2) ((l2).length) (cap2)) rfl (y_move h1_2) ?_
                    refine q_y (v := .int .i64 (((j : Nat) : Int))) rfl (y_move h1_13) ?_
                    refine q_y (v := .pointer (some ⟨b2, o2 + j * 64, none⟩)) rfl (y_ixO j (hs2.at_ (by omega)) rfl rfl Try.underlying33 s35 (by omega) (by first | omega | (simp; done) | (simp; omega))) ?_
                    refine q_y (v := .agg (bv ((l2)[j]))) rfl (y_loadB T35 rfl (SlG.rd (SlG.old hs2 (fun _ h => h)) j (by first | omega | (simp; done) | (simp; omega)))) ?_
                    refine q_y (v := .agg (bv (xorB (foldB (dltB w1 l2 l3 b (j))) ((l2)[j])))) rfl (y_call (vs := [.agg (bv (foldB (dltB w1 l2 l3 b (j)))), .agg (bv ((l2)[j]))]) b23 rfl (fun w hw => f23_rxor _ _ w)) ?_
                    refine q_y (v := .slice (a3) ((l3).length) (cap3)) rfl (y_move h1_3) ?_
                    refine q_y (v := .int .i64 (((j : Nat) : Int))) rfl (y_move h1_13) ?_
                    refine q_y (v := .pointer (some ⟨b3, o3 + j * 64, none⟩)) rfl (y_ixO j (hs3.at_ (by omega)) rfl rfl Try.underlying33 s35 (by omega) (by first | omega | (simp; done) | (simp; omega))) ?_
                    refine q_y (v := .agg (bv ((l3)[j]))) rfl (y_loadB T35 rfl (SlG.rd (SlG.old hs3 (fun _ h => h)) j (by first | omega | (simp; done) | (simp; omega)))) ?_
                    refine q_y (v := .agg (bv (xorB (xorB (foldB (dltB w1 l2 l3 b (j))) ((l2)[j])) ((l3)[j])))) rfl (y_call (vs := [.agg (bv (xorB (foldB (dltB w1 l2 l3 b (j))) ((l2)[j]))), .agg (bv ((l3)[j]))]) b23 rfl (fun w hw => f23_rxor _ _ w)) ?_
                    refine q_nil ?_
                    refine o_storeB (H' := [(g2, .cells (bv (zB)) 35 (0, 0)), (g1, .cells (bv (xorB (xorB (foldB (dltB w1 l2 l3 b (j))) ((l2)[j])) ((l3)[j]))) 35 (0, 0))]) T35 1 h1_9 rfl rfl rfl ?_
                    refine o_nil ?_
                    refine hK15 _ _ ?_
                    refine c_region ?_
                    refine o_y (v := .int .i64 (((j : Nat) : Int))) rfl rfl (y_move h1_13) ?_
                    refine o_y (v := .int .i64 ((((j : Nat) : Int)) + 1)) rfl rfl (y_add rfl rfl (wi_i64 (by omega) (by omega))) ?_
                    refine o_y (v := .int .i64 ((((j : Nat) : Int)) + 1)) rfl rfl (y_assign rfl) ?_
                    refine o_nil ?_
                    refine ⟨_, by omega, j + 1, rfl, by omega, h1_1, h1_2, h1_3, h1_9, h1_10, h1_12, (ie (a := (((j : Nat) : Int)) + 1) (b := ((j + 1 : Nat) : Int)) (by omega)), ?_⟩
                    rw [fold_dlt_t (by omega) (by omega) (by omega) (by assumption)]; first | done | rfl
                  ·
                    -- way FFFFFTLTF
                    refine c_skip ?_
                    refine hK15 _ _ ?_
                    refine c_region ?_
                    refine o_y (v := .int .i64 (((j : Nat) : Int))) rfl rfl (y_move h1_13) ?_
                    refine o_y (v := .int .i64 ((((j : Nat) : Int)) + 1)) rfl rfl (y_add rfl rfl (wi_i64 (by omega) (by omega))) ?_
                    refine o_y (v := .int .i64 ((((j : Nat) : Int)) + 1)) rfl rfl (y_assign rfl) ?_
                    refine o_nil ?_
                    refine ⟨_, by omega, j + 1, rfl, by omega, h1_1, h1_2, h1_3, h1_9, h1_10, h1_12, (ie (a := (((j : Nat) : Int)) + 1) (b := ((j + 1 : Nat) : Int)) (by omega)), ?_⟩
                    rw [dltB_f (by omega) (by assumption)]; first | done | rfl
                ·
                  replace hc7 := of_decide_eq_false hc7
                  -- way FFFFFTLF
                  refine c_exit ?_
                  refine hK11 _ _ ?_
                  refine c_seq fun K17 hK17 => ?_
                  refine c_region ?_
                  refine o_y (v := .agg (bv (foldB (dltB w1 l2 l3 b (j))))) rfl rfl (y_loadB T35 h1_9 (Rd.whole (k := 1) rfl)) ?_
                  refine o_storeB (H' := [(g2, .cells (bv (foldB (dltB w1 l2 l3 b (j)))) 35 (0, 0)), (g1, .cells (bv (foldB (dltB w1 l2 l3 b (j)))) 35 (0, 0))]) T35 0 h1_10 rfl rfl rfl ?_
                  refine o_y (v := .int .i64 (0)) rfl rfl (y_assign rfl) ?_
                  refine o_nil ?_
                  refine hK17 _ _ ?_
                  refine c_ret ?_
                  refine fun w hw => ⟨[.agg (bv (foldB (dltB w1 l2 l3 b (j)))), .int .i64 (0)], ⟨⟨_, h1_10, loadB T35 ((Rd.whole (k := 0) rfl) w hw)⟩, rfl, trivial⟩, ?_⟩
                  obtain rfl : j = w1.length := by omega
                  rw [parB, parE, par_4 (show ¬ badP w1 l2 l3 by unfold badP; omega) (by omega)]
                  first | done | rfl
            ·
              replace hc6 := of_decide_eq_false hc6
              -- way FFFFFF
              refine c_skip ?_
              refine hK9 _ _ ?_
              refine c_seq fun K18 hK18 => ?_
              refine c_seq fun K19 hK19 => ?_
              refine c_region ?_
              refine o_y (v := .int .u8 (way)) rfl rfl (y_move rfl) ?_
              refine o_y (v := .bool (decide (way ≠ 3))) rfl rfl (y_neq rfl rfl rfl) ?_
              refine o_nil ?_
              refine hK19 _ _ ?_
              refine c_cond (t := decide (way ≠ 3)) rfl (fun hc9 => ?_) (fun hc9 => ?_)
              ·
                replace hc9 := of_decide_eq_true hc9
                -- way FFFFFFT
                refine c_seq fun K20 hK20 => ?_
                refine c_region ?_
                refine o_y (v := .agg (bv (zB))) rfl rfl (y_build rfl (by kernel_rfl)) ?_
                refine o_storeB (H' := [(g2, .cells (bv (zB)) 35 (0, 0)), (g1, .cells (bv (b)) 35 (0, 0))]) T35 0 rfl rfl rfl rfl ?_
                refine o_y (v := .int .i64 (2)) rfl rfl (y_assign rfl) ?_
                refine o_nil ?_
                refine hK20 _ _ ?_
                refine c_ret ?_
                refine fun w hw => ⟨[.agg (bv (zB)), .int .i64 (2)], ⟨⟨_, rfl, loadB T35 ((Rd.whole (k := 0) rfl) w hw)⟩, rfl, trivial⟩, ?_⟩
                by_cases hbad : badP w1 l2 l3
                · have hq := par_bad (way := way) (p := b) hbad
                  rw [parB, parE, hq]
                  rfl
                · have hq := par_none (way := way) (p := b) hbad (by unfold badP at hbad; omega) (by unfold badP at hbad; omega) (by unfold badP at hbad; omega)
                  rw [parB, parE, hq]
                  rfl
              ·
                replace hc9 := of_decide_eq_false hc9
                -- way FFFFFFF
                refine c_skip ?_
                refine hK18 _ _ ?_
                refine c_seq fun K21 hK21 => ?_
                refine c_region ?_
                refine o_alloc (z := .agg (bv (zB))) rfl z35 fun g3 => ?_
                refine o_nil ?_
                refine hK21 _ _ ?_
                refine c_seq fun K22 hK22 => ?_
                refine c_seq fun K23 hK23 => ?_
                refine c_region ?_
                refine o_y (v := .int .i64 (0)) rfl rfl (y_assign rfl) ?_
                refine o_nil ?_
                refine hK23 _ _ ?_
                refine c_block ?_
                refine c_loop (fun d R H => ∃ (j : Nat), d = w1.length - (j) ∧ (j ≤ w1.length) ∧ R 1 = .slice (a1) ((w1).length) (cap1) ∧ R 2 = .slice (a2) ((l2).length) (cap2) ∧ R 3 = .slice (a3) ((l3).length) (cap3) ∧ R 10 = .pointer (some ⟨g2, 0, none⟩) ∧ R 12 = .int .i64 ((((w1).length : Nat) : Int)) ∧ R 14 = .pointer (some ⟨g3, 0, none⟩) ∧ R 15 = .int .i64 (((j : Nat) : Int)) ∧ H = ([(g3, .cells (bv (foldB (mixL w1 l2 l3 (j)))) 35 (0, 0)), (g2, .cells (bv (zB)) 35 (0, 0)), (g1, .cells (bv (b)) 35 (0, 0))] : Hp)) (w1.length - (0)) ?_ ?_
                ·
                  refine ⟨0, rfl, by omega, rfl, rfl, rfl, rfl, rfl, rfl, (ie (a := 0) (b := ((0 : Nat) : Int)) (by omega)), ?_⟩
                  skip; first | done | rfl
                ·
                  rintro d2 R2 _ ⟨j, hd2, hv2_0, h2_1, h2_2, h2_3, h2_10, h2_12, h2_14, h2_15, rfl⟩
                  refine c_seq fun K24 hK24 => ?_
                  refine c_seq fun K25 hK25 => ?_
                  refine c_region ?_
                  refine o_y (v := .int .i64 (((j : Nat) : Int))) rfl rfl (y_move h2_15) ?_
                  refine o_y (v := .int .i64 ((((w1).length : Nat) : Int))) rfl rfl (y_move h2_12) ?_
                  refine o_y (v := .bool (decide (((j : Nat) : Int) < (((w1).length : Nat) : Int)))) rfl rfl (y_lss rfl rfl rfl) ?_
                  refine o_nil ?_
                  refine hK25 _ _ ?_
                  refine c_cond (t := decide (((j : Nat) : Int) < (((w1).length : Nat) : Int))) rfl (fun hc10 => ?_) (fun hc10 => ?_)
                  ·
                    replace hc10 := of_decide_eq_true hc10
                    -- way FFFFFFFLT
                    refine c_skip ?_
                    refine hK24 _ _ ?_
                    refine c_seq fun K26 hK26 => ?_
                    refine c_block ?_
                    refine c_seq fun K27 hK27 => ?_
                    refine c_region ?_
                    refine o_y (v := .slice (a1) ((w1).length) (cap1)) rfl rfl (y_move h2_1) ?_
                    refine o_y (v := .int .i64 (((j : Nat) : Int))) rfl rfl (y_move h2_15) ?_
                    refine o_y (v := .pointer (some ⟨b1, o1 + j * 1, none⟩)) rfl rfl (y_ixO j (hs1.at_ (by omega)) rfl rfl Try.underlying22 s4 (by omega) (by first | omega | (simp; done) | (simp; omega))) ?_
                    refine o_y (v := .bool ((w1)[j])) rfl rfl (y_load rfl Try.underlying4 rfl (SlG.rd (SlG.old hs1 (fun _ h => h)) j (by first | omega | (simp; done) | (simp; omega)))) ?_
                    refine o_nil ?_
                    refine hK27 _ _ ?_
                    refine c_cond (t := (w1)[j]) rfl (fun hc11 => ?_) (fun hc11 => ?_)
                    ·
                      -- way FFFFFFFLTT
                      refine c_draw 6 (by kernel_rfl) (by kernel_rfl) ?_
                      refine q_y (v := .agg (bv (foldB (mixL w1 l2 l3 (j))))) rfl (y_loadB T35 h2_14 (Rd.whole (k := 0) rfl)) ?_
                      refine q_y (v := .slice (a3) ((l3).length) (cap3)) rfl (y_move h2_3) ?_
                      refine q_y (v := .int .i64 (((j : Nat) : Int))) rfl (y_move h2_15) ?_
                      refine q_y (v := .pointer (some ⟨b3, o3 + j * 64, none⟩)) rfl (y_ixO j (hs3.at_ (by omega)) rfl rfl Try.underlying33 s35 (by omega) (by first | omega | (simp; done) | (simp; omega))) ?_
                      refine q_y (v := .agg (bv ((l3)[j]))) rfl (y_loadB T35 rfl (SlG.rd (SlG.old hs3 (fun _ h => h)) j (by first | omega | (simp; done) | (simp; omega)))) ?_
                      refine q_y (v := .agg (bv (xorB (foldB (mixL w1 l2 l3 (j))) ((l3)[j])))) rfl (y_call (vs := [.agg (bv (foldB (mixL w1 l2 l3 (j)))), .agg (bv ((l3)[j]))]) b23 rfl (fun w hw => f23_rxor _ _ w)) ?_
                      refine q_nil ?_
                      refine o_storeB (H' := [(g3, .cells (bv (xorB (foldB (mixL w1 l2 l3 (j))) ((l3)[j]))) 35 (0, 0)), (g2, .cells (bv (zB)) 35 (0, 0)), (g1, .cells (bv (b)) 35 (0, 0))]) T35 0 h2_14 rfl rfl rfl ?_
                      refine o_nil ?_
                      refine hK26 _ _ ?_
                      refine c_region ?_
                      refine o_y (v := .int .i64 (((j : Nat) : Int))) rfl rfl (y_move h2_15) ?_
                      refine o_y (v := .int .i64 ((((j : Nat) : Int)) + 1)) rfl rfl (y_add rfl rfl (wi_i64 (by omega) (by omega))) ?_
                      refine o_y (v := .int .i64 ((((j : Nat) : Int)) + 1)) rfl rfl (y_assign rfl) ?_
                      refine o_nil ?_
                      refine ⟨_, by omega, j + 1, rfl, by omega, h2_1, h2_2, h2_3, h2_10, h2_12, h2_14, (ie (a := (((j : Nat) : Int)) + 1) (b := ((j + 1 : Nat) : Int)) (by omega)), ?_⟩
                      rw [fold_mix_t (by omega) (by omega) (by assumption)]; first | done | rfl
                    ·
                      -- way FFFFFFFLTF
                      refine c_draw 6 (by kernel_rfl) (by kernel_rfl) ?_
                      refine q_y (v := .agg (bv (foldB (mixL w1 l2 l3 (j))))) rfl (y_loadB T35 h2_14 (Rd.whole (k := 0) rfl)) ?_
                      refine q_y (v := .slice (a2) ((l2).length) (cap2)) rfl (y_move h2_2) ?_
                      refine q_y (v := .int .i64 (((j : Nat) : Int))) rfl (y_move h2_15) ?_
                      refine q_y (v := .pointer (some ⟨b2, o2 + j * 64, none⟩)) rfl (y_ixO j (hs2.at_ (by omega)) rfl rfl Try.underlying33 s35 (by omega) (by first | omega | (simp; done) | (simp; omega))) ?_
                      refine q_y (v := .agg (bv ((l2)[j]))) rfl (y_loadB T35 rfl (SlG.rd (SlG.old hs2 (fun _ h => h)) j (by first | omega | (simp; done) | (simp; omega)))) ?_
                      refine q_y (v := .agg (bv (xorB (foldB (mixL w1 l2 l3 (j))) ((l2)[j])))) rfl (y_call (vs := [.agg (bv (foldB (mixL w1 l2 l3 (j)))), .agg (bv ((l2)[j]))]) b23 rfl (fun w hw => f23_rxor _ _ w)) ?_
                      refine q_nil ?_
                      refine o_storeB (H' := [(g3, .cells (bv (xorB (foldB (mixL w1 l2 l3 (j))) ((l2)[j]))) 35 (0, 0)), (g2, .cells (bv (zB)) 35 (0, 0)), (g1, .cells (bv (b)) 35 (0, 0))]) T35 0 h2_14 rfl rfl rfl ?_
                      refine o_nil ?_
                      refine hK26 _ _ ?_
                      refine c_region ?_
                      refine o_y (v := .int .i64 (((j : Nat) : Int))) rfl rfl (y_move h2_15) ?_
                      refine o_y (v := .int .i64 ((((j : Nat) : Int)) + 1)) rfl rfl (y_add rfl rfl (wi_i64 (by omega) (by omega))) ?_
                      refine o_y (v := .int .i64 ((((j : Nat) : Int)) + 1)) rfl rfl (y_assign rfl) ?_
                      refine o_nil ?_
                      refine ⟨_, by omega, j + 1, rfl, by omega, h2_1, h2_2, h2_3, h2_10, h2_12, h2_14, (ie (a := (((j : Nat) : Int)) + 1) (b := ((j + 1 : Nat) : Int)) (by omega)), ?_⟩
                      rw [fold_mix_f (by omega) (by omega) (by assumption)]; first | done | rfl
                  ·
                    replace hc10 := of_decide_eq_false hc10
                    -- way FFFFFFFLF
                    refine c_exit ?_
                    refine hK22 _ _ ?_
                    refine c_seq fun K28 hK28 => ?_
                    refine c_region ?_
                    refine o_y (v := .agg (bv (foldB (mixL w1 l2 l3 (j))))) rfl rfl (y_loadB T35 h2_14 (Rd.whole (k := 0) rfl)) ?_
                    refine o_storeB (H' := [(g3, .cells (bv (foldB (mixL w1 l2 l3 (j)))) 35 (0, 0)), (g2, .cells (bv (foldB (mixL w1 l2 l3 (j)))) 35 (0, 0)), (g1, .cells (bv (b)) 35 (0, 0))]) T35 1 h2_10 rfl rfl rfl ?_
                    refine o_y (v := .int .i64 (0)) rfl rfl (y_assign rfl) ?_
                    refine o_nil ?_
                    refine hK28 _ _ ?_
                    refine c_ret ?_
                    refine fun w hw => ⟨[.agg (bv (foldB (mixL w1 l2 l3 (j)))), .int .i64 (0)], ⟨⟨_, h2_10, loadB T35 ((Rd.whole (k := 1) rfl) w hw)⟩, rfl, trivial⟩, ?_⟩
                    obtain rfl : j = w1.length := by omega
                    rw [parB, parE, par_3 (show ¬ badP w1 l2 l3 by unfold badP; omega) (by omega)]
                    first | done | rfl
      ·
        have hc3' := of_decide_eq_true hc3
        -- way FFT
        refine o_guard (j := 12) (d := 30) (b := true) rfl rfl rfl (fun h => by cases h) rfl (fun _ => ?_)
        refine o_guard (j := 12) (d := 30) (b := true) rfl rfl rfl (fun h => by cases h) rfl (fun _ => ?_)
        refine o_guard (j := 12) (d := 30) (b := true) rfl rfl rfl (fun h => by cases h) rfl (fun _ => ?_)
        refine o_guard (j := 12) (d := 30) (b := true) rfl rfl rfl (fun h => by cases h) rfl (fun _ => ?_)
        refine o_y (v := .bool (true)) rfl rfl (y_pick (b := true) rfl rfl) ?_
        refine o_nil ?_
        refine hK4 _ _ ?_
        refine c_cond (t := true) rfl (fun _ => ?_) (fun h => by cases h)
        refine c_seq fun K29 hK29 => ?_
        refine c_region ?_
        refine o_y (v := .agg (bv (zB))) rfl rfl (y_build rfl (by kernel_rfl)) ?_
        refine o_storeB (H' := [(g2, .cells (bv (zB)) 35 (0, 0)), (g1, .cells (bv (b)) 35 (0, 0))]) T35 0 rfl rfl rfl rfl ?_
        refine o_y (v := .int .i64 (2)) rfl rfl (y_assign rfl) ?_
        refine o_nil ?_
        refine hK29 _ _ ?_
        refine c_ret ?_
        refine fun w hw => ⟨[.agg (bv (zB)), .int .i64 (2)], ⟨⟨_, rfl, loadB T35 ((Rd.whole (k := 0) rfl) w hw)⟩, rfl, trivial⟩, ?_⟩
        by_cases hbad : badP w1 l2 l3
        · have hq := par_bad (way := way) (p := b) hbad
          rw [parB, parE, hq]
          rfl
        · have hq := par_none (way := way) (p := b) hbad (by unfold badP at hbad; omega) (by unfold badP at hbad; omega) (by unfold badP at hbad; omega)
          rw [parB, parE, hq]
          rfl
    ·
      have hc2' := of_decide_eq_true hc2
      -- way FT
      refine o_guard (j := 6) (d := 24) (b := true) rfl rfl rfl (fun h => by cases h) rfl (fun _ => ?_)
      refine o_guard (j := 6) (d := 24) (b := true) rfl rfl rfl (fun h => by cases h) rfl (fun _ => ?_)
      refine o_guard (j := 6) (d := 24) (b := true) rfl rfl rfl (fun h => by cases h) rfl (fun _ => ?_)
      refine o_guard (j := 6) (d := 24) (b := true) rfl rfl rfl (fun h => by cases h) rfl (fun _ => ?_)
      refine o_y (v := .bool (true)) rfl rfl (y_pick (b := true) rfl rfl) ?_
      refine o_y (v := .bool (true)) rfl rfl (y_move rfl) ?_
      refine o_guard (j := 12) (d := 30) (b := true) rfl rfl rfl (fun h => by cases h) rfl (fun _ => ?_)
      refine o_guard (j := 12) (d := 30) (b := true) rfl rfl rfl (fun h => by cases h) rfl (fun _ => ?_)
      refine o_guard (j := 12) (d := 30) (b := true) rfl rfl rfl (fun h => by cases h) rfl (fun _ => ?_)
      refine o_guard (j := 12) (d := 30) (b := true) rfl rfl rfl (fun h => by cases h) rfl (fun _ => ?_)
      refine o_y (v := .bool (true)) rfl rfl (y_pick (b := true) rfl rfl) ?_
      refine o_nil ?_
      refine hK4 _ _ ?_
      refine c_cond (t := true) rfl (fun _ => ?_) (fun h => by cases h)
      refine c_seq fun K30 hK30 => ?_
      refine c_region ?_
      refine o_y (v := .agg (bv (zB))) rfl rfl (y_build rfl (by kernel_rfl)) ?_
      refine o_storeB (H' := [(g2, .cells (bv (zB)) 35 (0, 0)), (g1, .cells (bv (b)) 35 (0, 0))]) T35 0 rfl rfl rfl rfl ?_
      refine o_y (v := .int .i64 (2)) rfl rfl (y_assign rfl) ?_
      refine o_nil ?_
      refine hK30 _ _ ?_
      refine c_ret ?_
      refine fun w hw => ⟨[.agg (bv (zB)), .int .i64 (2)], ⟨⟨_, rfl, loadB T35 ((Rd.whole (k := 0) rfl) w hw)⟩, rfl, trivial⟩, ?_⟩
      by_cases hbad : badP w1 l2 l3
      · have hq := par_bad (way := way) (p := b) hbad
        rw [parB, parE, hq]
        rfl
      · have hq := par_none (way := way) (p := b) hbad (by unfold badP at hbad; omega) (by unfold badP at hbad; omega) (by unfold badP at hbad; omega)
        rw [parB, parE, hq]
        rfl
  ·
    have hc1' := of_decide_eq_true hc1
    -- way T
    refine o_guard (j := 2) (d := 20) (b := true) rfl rfl rfl (fun h => by cases h) rfl (fun _ => ?_)
    refine o_guard (j := 2) (d := 20) (b := true) rfl rfl rfl (fun h => by cases h) rfl (fun _ => ?_)
    refine o_y (v := .bool (true)) rfl rfl (y_pick (b := true) rfl rfl) ?_
    refine o_y (v := .bool (true)) rfl rfl (y_move rfl) ?_
    refine o_guard (j := 6) (d := 24) (b := true) rfl rfl rfl (fun h => by cases h) rfl (fun _ => ?_)
    refine o_guard (j := 6) (d := 24) (b := true) rfl rfl rfl (fun h => by cases h) rfl (fun _ => ?_)
    refine o_guard (j := 6) (d := 24) (b := true) rfl rfl rfl (fun h => by cases h) rfl (fun _ => ?_)
    refine o_guard (j := 6) (d := 24) (b := true) rfl rfl rfl (fun h => by cases h) rfl (fun _ => ?_)
    refine o_y (v := .bool (true)) rfl rfl (y_pick (b := true) rfl rfl) ?_
    refine o_y (v := .bool (true)) rfl rfl (y_move rfl) ?_
    refine o_guard (j := 12) (d := 30) (b := true) rfl rfl rfl (fun h => by cases h) rfl (fun _ => ?_)
    refine o_guard (j := 12) (d := 30) (b := true) rfl rfl rfl (fun h => by cases h) rfl (fun _ => ?_)
    refine o_guard (j := 12) (d := 30) (b := true) rfl rfl rfl (fun h => by cases h) rfl (fun _ => ?_)
    refine o_guard (j := 12) (d := 30) (b := true) rfl rfl rfl (fun h => by cases h) rfl (fun _ => ?_)
    refine o_y (v := .bool (true)) rfl rfl (y_pick (b := true) rfl rfl) ?_
    refine o_nil ?_
    refine hK4 _ _ ?_
    refine c_cond (t := true) rfl (fun _ => ?_) (fun h => by cases h)
    refine c_seq fun K31 hK31 => ?_
    refine c_region ?_
    refine o_y (v := .agg (bv (zB))) rfl rfl (y_build rfl (by kernel_rfl)) ?_
    refine o_storeB (H' := [(g2, .cells (bv (zB)) 35 (0, 0)), (g1, .cells (bv (b)) 35 (0, 0))]) T35 0 rfl rfl rfl rfl ?_
    refine o_y (v := .int .i64 (2)) rfl rfl (y_assign rfl) ?_
    refine o_nil ?_
    refine hK31 _ _ ?_
    refine c_ret ?_
    refine fun w hw => ⟨[.agg (bv (zB)), .int .i64 (2)], ⟨⟨_, rfl, loadB T35 ((Rd.whole (k := 0) rfl) w hw)⟩, rfl, trivial⟩, ?_⟩
    by_cases hbad : badP w1 l2 l3
    · have hq := par_bad (way := way) (p := b) hbad
      rw [parB, parE, hq]
      rfl
    · have hq := par_none (way := way) (p := b) hbad (by unfold badP at hbad; omega) (by unfold badP at hbad; omega) (by unfold badP at hbad; omega)
      rw [parB, parE, hq]
      rfl

set_option maxRecDepth 100000 in
set_option maxHeartbeats 4000000 in
theorem f14_cut (w1 : List Bool) (a1 : Option Addr) (b1 o1 cap1 m1 : Nat) (l2 : List Blk) (a2 : Option Addr) (b2 o2 cap2 m2 : Nat) (l3 : List Blk) (a3 : Option Addr) (b3 o3 cap3 m3 : Nat) (w : World) (hm1 : m1 = w1.length) (hs1 : Sl eBool w w1 a1 b1 o1 cap1) (hm2 : m2 = l2.length) (hs2 : Sl eBlk w l2 a2 b2 o2 cap2) (hm3 : m3 = l3.length) (hs3 : Sl eBlk w l3 a3 b3 o3 cap3) :
    Calls Try.prog 14 [.slice (a1) (m1) (cap1), .slice (a2) (m2) (cap2), .slice (a3) (m3) (cap3)].toArray w fun e w' => e = .returned (.tuple #[.slice (a1) (cutN w1 l2 l3) (cap1), .slice (a2) (cutN w1 l2 l3) (cap2), .slice (a3) (cutN w1 l2 l3) (cap3)]) ∧ Below w.heap.size w w' := by
  subst hm1
  subst hm2
  subst hm3
  have hle1 := hs1.le
  have hle2 := hs2.le
  have hle3 := hs3.le
  have hmx1 := hs1.mx
  have hmx2 := hs2.mx
  have hmx3 := hs3.mx
  simp only [maxLen] at hmx1 hmx2 hmx3
  have hcut := cutN_le w1 l2 l3
  refine (calls_of (P := Try.prog) (n := 26) (w0 := w) (S := fun _ => False) (H := []) (T := fun v _ => v = (.tuple #[.slice (a1) (cutN w1 l2 l3) (cap1), .slice (a2) (cutN w1 l2 l3) (cap2), .slice (a3) (cutN w1 l2 l3) (cap3)])) Try.func14 rfl Try.ntmps14 (Nat.le_of_ble_eq_true rfl) [.tmp 6, .tmp 7, .tmp 8] rfl (St.nil w _) ?_).mono fun e w' ⟨v, H', he, hs, hT⟩ => ⟨by rw [he, hT], hs.below⟩
  refine c_seq fun K1 hK1 => ?_
  refine c_region ?_
  refine o_y (v := .slice none 0 0) rfl rfl (y_assign rfl) ?_
  refine o_y (v := .slice none 0 0) rfl rfl (y_assign rfl) ?_
  refine o_y (v := .slice none 0 0) rfl rfl (y_assign rfl) ?_
  refine o_nil ?_
  refine hK1 _ _ ?_
  refine c_seq fun K2 hK2 => ?_
  refine c_region ?_
  refine o_y (v := .slice (a1) ((w1).length) (cap1)) rfl rfl (y_move rfl) ?_
  refine o_y (v := .int .i64 ((((w1).length : Nat) : Int))) rfl rfl (y_len rfl Try.underlying22) ?_
  refine o_y (v := .slice (a2) ((l2).length) (cap2)) rfl rfl (y_move rfl) ?_
  refine o_y (v := .int .i64 ((((l2).length : Nat) : Int))) rfl rfl (y_len rfl Try.underlying33) ?_
  refine o_y (v := .slice (a3) ((l3).length) (cap3)) rfl rfl (y_move rfl) ?_
  refine o_y (v := .int .i64 ((((l3).length : Nat) : Int))) rfl rfl (y_len rfl Try.underlying33) ?_
  refine o_y (v := .int .i64 (((cutN w1 l2 l3 : Nat) : Int))) rfl rfl (y_min4 rfl rfl rfl rfl (cutN_eq w1 l2 l3)) ?_
  refine o_y (v := .int .i64 (((cutN w1 l2 l3 : Nat) : Int))) rfl rfl (y_assign rfl) ?_
  refine o_nil ?_
  refine hK2 _ _ ?_
  refine c_seq fun K3 hK3 => ?_
  refine c_draw 12 (by kernel_rfl) (by kernel_rfl) ?_
  refine q_y (v := .slice (a1) ((w1).length) (cap1)) rfl (y_move rfl) ?_
  refine q_y (v := .int .i64 (((cutN w1 l2 l3 : Nat) : Int))) rfl (y_move rfl) ?_
  refine q_y (v := .slice (a1) (cutN w1 l2 l3) (cap1)) rfl (y_partL (sz := 1) (cutN w1 l2 l3) rfl Try.underlying22 s4 ⟨_, rfl⟩ (by first | omega | (simp; done) | (simp; omega))) ?_
  refine q_y (v := .slice (a2) ((l2).length) (cap2)) rfl (y_move rfl) ?_
  refine q_y (v := .int .i64 (((cutN w1 l2 l3 : Nat) : Int))) rfl (y_move rfl) ?_
  refine q_y (v := .slice (a2) (cutN w1 l2 l3) (cap2)) rfl (y_partL (sz := 64) (cutN w1 l2 l3) rfl Try.underlying33 s35 ⟨_, rfl⟩ (by first | omega | (simp; done) | (simp; omega))) ?_
  refine q_y (v := .slice (a3) ((l3).length) (cap3)) rfl (y_move rfl) ?_
  refine q_y (v := .int .i64 (((cutN w1 l2 l3 : Nat) : Int))) rfl (y_move rfl) ?_
  refine q_y (v := .slice (a3) (cutN w1 l2 l3) (cap3)) rfl (y_partL (sz := 64) (cutN w1 l2 l3) rfl Try.underlying33 s35 ⟨_, rfl⟩ (by first | omega | (simp; done) | (simp; omega))) ?_
  refine q_y (v := .slice (a1) (cutN w1 l2 l3) (cap1)) rfl (y_assign rfl) ?_
  refine q_y (v := .slice (a2) (cutN w1 l2 l3) (cap2)) rfl (y_assign rfl) ?_
  refine q_y (v := .slice (a3) (cutN w1 l2 l3) (cap3)) rfl (y_assign rfl) ?_
  refine q_nil ?_
  refine o_nil ?_
  refine hK3 _ _ ?_
  refine c_ret ?_
  refine fun w hw => ⟨[.slice (a1) (cutN w1 l2 l3) (cap1), .slice (a2) (cutN w1 l2 l3) (cap2), .slice (a3) (cutN w1 l2 l3) (cap3)], ⟨rfl, rfl, rfl, trivial⟩, ?_⟩
  exact rfl

end Go.Proofs.Ytdekckpoolkgnaa.Plan
