/- Proved: what the functions of a device do; what the functions of a bench do; where blocks stand; what the members are; blocks laid against each other; how a parity is made; the conditions stand in the statements. -/
import Derived.Test.YtnilejkfbcnkkaaGreatDoorM02
set_option linter.unusedVariables false
set_option linter.unusedSimpArgs false
set_option linter.unusedSectionVars false
section
set_option maxRecDepth 100000
namespace Go.Proofs.YtnilejkfbcnkkaaGreatDoor.V
open Go Go.RowKit
attribute [local irreducible] Yields cl blk pur rowc sv exC fo

abbrev BV (x : Blk) : Value := A (bl x)
def eWr : Enc (Int × Blk) := ⟨fun p => .int .i64 p.1 :: bl p.2, 65, fun p => by simp [bl_len], fun p v hv => by
  rcases List.mem_cons.1 hv with rfl | hv
  · rfl
  · exact bv_one p.2 v hv, by omega⟩
instance : EncV eWr (fun p => .int .i64 p.1 :: bl p.2) := ⟨rfl⟩
/-- what was written last of a number -/
def lastW : List (Int × Blk) → Int → Option Blk
  | [], _ => none
  | p :: l, i => (lastW l i).or (if p.1 = i then some p.2 else none)
theorem lastW_app (l m : List (Int × Blk)) (i : Int) : lastW (l ++ m) i = (lastW m i).or (lastW l i) := by
  induction l with
  | nil => simp [lastW]
  | cons p l ih => simp [lastW, ih, Option.or_assoc]
def look (sure : List Blk) (loose : List (Int × Blk)) (i : Nat) : Blk := (lastW loose i).getD (sure.getD i blk0)
structure Dev where
  n : Nat
  rd : Nat → Blk
  dead : Bool
def DiskM (gd : Nat) (d : Dev) (k : Nat) : Nat × Nat × Option Addr × Nat × List Blk × List (Int × Blk) → Hp := fun ⟨gs, cs, al, c, sure, loose⟩ =>
  [pur (sure.length = d.n ∧ 0 < d.n ∧ d.n ≤ 512 ∧ loose.length ≤ k ∧ k ≤ 1099511627776 ∧ (∀ p ∈ loose, 0 ≤ p.1 ∧ p.1 < d.n) ∧ (d.dead = false → ∀ i, i < d.n → d.rd i = look sure loose i)),
   cl gd [.slice (some ⟨gs, 0, none⟩) sure.length cs, .slice al loose.length c, .bool d.dead] 105, rowc eBlk 51 sure gs cs, sv eWr 284 loose al c]
def DiskC (gd : Nat) (d : Dev) (k : Nat) : Chunk := exC 20 (DiskM gd d k)

theorem f54 {gd gs cs n : Nat} {v1 v2 : Value} (hn : 0 < n) : CtV Tryz.prog 54 [PP gd] [cl gd [.slice (some ⟨gs, 0, none⟩) n cs, v1, v2] 105] (.bool false) := by
  refine w_ct Tryz.func54 rfl Tryz.ntmps54 rfl fun w B => ?_
  refine W ?_
  refine fin ⟨_, rfl, ?_, rfl⟩
  exact congrArg Value.bool (decide_eq_false (by omega))
theorem f236 {gd gs cs n : Nat} {v1 : Value} {dead : Bool} {i : Nat} (hi : i < n) : CtV Tryz.prog 236 [PP gd, I i] [cl gd [.slice (some ⟨gs, 0, none⟩) n cs, v1, .bool dead] 105] (I (if dead then 9 else 0)) := by
  refine w_ct Tryz.func236 rfl Tryz.ntmps236 rfl fun w B => ?_
  refine W ?_
  refine cv (f54 ?_) ?_
  · omega
  refine W ?_
  rw [decide_eq_false (show ¬ ((i : Int) < 0) by omega)]
  refine W ?_
  rw [decide_eq_false (show ¬ ((n : Int) ≤ i) by omega)]
  refine W ?_
  cases dead
  · refine W ?_
    exact fin ⟨_, rfl, rfl, rfl⟩
  · refine W ?_
    exact fin ⟨_, rfl, rfl, rfl⟩
theorem f186 {gd k : Nat} {d : Dev} : CtV Tryz.prog 186 [PP gd] [DiskC gd d k] (I d.n) := by
  refine w_ct Tryz.func186 rfl Tryz.ntmps186 rfl fun w B => ?_
  refine g_ex rfl Sel.hd fun ⟨gs, cs, al, c, sure, loose⟩ => ?_
  refine g_pure rfl Sel.hd fun ⟨h1, h2, h3, h4, hK, h5, h6⟩ => ?_
  refine W ?_
  refine cv (f54 ?_) ?_
  · omega
  refine W ?_
  refine finE (L' := [DiskC gd d k]) (v := I sure.length) ⟨_, rfl, by rw [h1], rfl⟩ ?_
  exact ent_ex ⟨gs, cs, al, c, sure, loose⟩ (ent_pur ⟨h1, h2, h3, h4, hK, h5, h6⟩ ent_)
theorem f37 {gd k : Nat} {d : Dev} : CtV Tryz.prog 37 [PP gd] [DiskC gd d k] (.bool d.dead) := by
  refine w_ct Tryz.func37 rfl Tryz.ntmps37 rfl fun w B => ?_
  refine g_ex rfl Sel.hd fun ⟨gs, cs, al, c, sure, loose⟩ => ?_
  refine g_pure rfl Sel.hd fun ⟨h1, h2, h3, h4, hK, h5, h6⟩ => ?_
  refine W ?_
  refine cv (f54 ?_) ?_
  · omega
  refine W ?_
  refine finE (L' := [DiskC gd d k]) ⟨_, rfl, rfl, rfl⟩ ?_
  exact ent_ex ⟨gs, cs, al, c, sure, loose⟩ (ent_pur ⟨h1, h2, h3, h4, hK, h5, h6⟩ ent_)
theorem f27 {gd k : Nat} {d : Dev} : Ct Tryz.prog 27 [PP gd] [DiskC gd d k] (fun v L => v = I 0 ∧ L = [DiskC gd { d with dead := true } k]) := by
  refine w_ct Tryz.func27 rfl Tryz.ntmps27 rfl fun w B => ?_
  refine g_ex rfl Sel.hd fun ⟨gs, cs, al, c, sure, loose⟩ => ?_
  refine g_pure rfl Sel.hd fun ⟨h1, h2, h3, h4, hK, h5, h6⟩ => ?_
  refine W ?_
  refine cv (f54 ?_) ?_
  · omega
  refine W ?_
  refine finE (L' := [DiskC gd { d with dead := true } k]) ⟨_, rfl, rfl, rfl⟩ ?_
  exact ent_ex ⟨gs, cs, none, 0, sure, []⟩ (ent_pur ⟨h1, h2, h3, by simp, hK, by simp, by simp⟩ (Ent.sel sel_ (Ent.sel sel_ (ent_svn .nil))))
theorem f46 {m : Nat} (h1 : 1 ≤ m) (h2 : m ≤ 512) : Ct Tryz.prog 46 [I m] [] (fun v L => ∃ g, v = T [PP g, I 0] ∧ L = [DiskC g ⟨m, fun _ => blk0, false⟩ 0]) := by
  refine w_ct Tryz.func46 rfl Tryz.ntmps46 rfl fun w B => ?_
  refine W ?_
  rw [decide_eq_false (show ¬ ((m : Int) < 1) by omega)]
  refine W ?_
  rw [decide_eq_false (show ¬ ((512 : Int) < m) by omega)]
  refine W ?_
  refine w_mk (E := eBlk) blk0 m rfl inferInstance rfl rfl rfl (by simp only [maxLen]; omega) (by omega) fun gs => ?_
  refine W1 fun g => ?_
  refine finE ⟨_, rfl, ⟨g, rfl, rfl⟩⟩ ?_
  refine ent_ex ⟨gs, m, none, 0, List.replicate m blk0, []⟩ (ent_pur ⟨by simp, by show 0 < m; omega, by show m ≤ 512; omega, by simp, by omega, by simp, ?_⟩ (Ent.sel sel_ (Ent.sel sel_ (ent_svn .nil))))
  intro _ i hi
  show blk0 = _
  have hi : i < m := hi
  simp [look, lastW, List.getD_eq_getElem?_getD, hi]
/-- what is read of a sector -/
theorem lastW_take (l : List (Int × Blk)) (i : Int) {j : Nat} (hj : j < l.length) (h : l[j].1 ≠ i) : lastW (l.take (j + 1)) i = lastW (l.take j) i := by
  rw [List.take_succ_eq_append_getElem hj, lastW_app]
  simp [lastW, h]
theorem lastW_hit (l : List (Int × Blk)) (i : Int) {j : Nat} (hj : j < l.length) (h : l[j].1 = i) : lastW (l.take (j + 1)) i = some l[j].2 := by
  rw [List.take_succ_eq_append_getElem hj, lastW_app]
  simp [lastW, h]
theorem f235 {gd k : Nat} {d : Dev} {i : Nat} (hi : i < d.n) : CtV Tryz.prog 235 [PP gd, I i] [DiskC gd d k] (if d.dead then T [BV blk0, I 9] else T [BV (d.rd i), I 0]) := by
  refine w_ct Tryz.func235 rfl Tryz.ntmps235 rfl fun w B => ?_
  obtain ⟨n, rd, dead⟩ := d
  refine g_ex rfl Sel.hd fun ⟨gs, cs, al, c, sure, loose⟩ => ?_
  refine g_pure rfl Sel.hd fun ⟨h1, h2, h3, h4, hK, h5, h6⟩ => ?_
  have hfold : ∀ K, Ent K [cl gd [.slice (some ⟨gs, 0, none⟩) sure.length cs, .slice al loose.length c, .bool dead] 105, rowc eBlk 51 sure gs cs, sv eWr 284 loose al c] → Ent K [DiskC gd ⟨n, rd, dead⟩ k] :=
    fun K h => ent_ex ⟨gs, cs, al, c, sure, loose⟩ (ent_pur ⟨h1, h2, h3, h4, hK, h5, h6⟩ h)
  simp only at h1 h2 h3 h5 h6 hi
  refine W1 fun gx => ?_
  refine cv (f236 (i := i) ?_) ?_
  · omega
  cases dead
  · have h6 := h6 rfl
    refine W ?_
    refine w_loop (γ := Nat) (fun j => [(0, PP gd), (1, I i), (4, PP gx), (7, I ((j : Int) - 1))]) (fun _ => [cl gx (bl blk0) 51, cl gd [.slice (some ⟨gs, 0, none⟩) sure.length cs, .slice al loose.length c, .bool false] 105, rowc eBlk 51 sure gs cs, sv eWr 284 loose al c])
      (fun j => j ≤ loose.length ∧ lastW loose i = lastW (loose.take j) i) (fun j => j) loose.length sl_ ent_ ⟨Nat.le_refl _, by simp⟩ fun j B ⟨hj, hw⟩ => ?_
    refine W ?_
    refine w_if rfl (fun h => ?_) (fun h => ?_)
    · obtain ⟨m, rfl⟩ : ∃ m, j = m + 1 := ⟨j - 1, by omega⟩
      refine g_svp rfl sel_ (by omega) fun g hg => ?_
      subst hg
      refine W ?_
      refine w_if rfl (fun h' => ?_) (fun h' => ?_)
      · refine W ?_
        have hm : (((m + 1 : Nat) : Int) - 1).toNat = m := by omega
        refine finE (v := T [BV loose[m].2, I 0]) ⟨_, rfl, ?_, rfl⟩ ?_ (ho := by simp only [hm]; rfl)
        · simp only [hm] at h'
          simp [h6 i hi, look, hw, lastW_hit loose i (by omega) h']
        · exact hfold _ (Ent.sel sel_ (Ent.sel sel_ (ent_sv ent_)))
      · refine W ?_
        refine w_land rfl (w_round m ⟨by omega, ?_⟩ (by omega) sl_ ?_)
        · rw [hw, lastW_take loose i (by omega)]
          simpa [show (((m + 1 : Nat) : Int) - 1).toNat = m by omega] using h'
        · exact Ent.sel sel_ (Ent.sel sel_ (Ent.sel sel_ (ent_sv ent_)))
    · obtain rfl : j = 0 := by omega
      refine W ?_
      refine finE (v := T [BV sure[i], I 0]) ⟨_, rfl, ?_, rfl⟩ (hfold _ ent_)
      simp only [lastW, List.take_zero] at hw
      simp [h6 i hi, look, hw, List.getD_eq_getElem?_getD, h1, hi]
  · refine W ?_
    exact finE ⟨_, rfl, rfl, rfl⟩ (hfold _ ent_)
def Dev.set (d : Dev) (i : Nat) (x : Blk) : Dev := { d with rd := fun j => if j = i then x else d.rd j }
theorem f190 {gd k : Nat} {d : Dev} {i : Nat} {x : Blk} (hi : i < d.n) (hk : k < 1099511627776) : Ct Tryz.prog 190 [PP gd, I i, BV x] [DiskC gd d k] (fun v L => (d.dead = true ∧ v = I 9 ∧ L = [DiskC gd d k]) ∨ (d.dead = false ∧ v = I 0 ∧ L = [DiskC gd (d.set i x) (k + 1)])) := by
  refine w_ct Tryz.func190 rfl Tryz.ntmps190 rfl fun w B => ?_
  obtain ⟨n, rd, dead⟩ := d
  refine g_ex rfl Sel.hd fun ⟨gs, cs, al, c, sure, loose⟩ => ?_
  refine g_pure rfl Sel.hd fun ⟨h1, h2, h3, h4, hK, h5, h6⟩ => ?_
  simp only at h1 h2 h3 h5 h6 hi
  refine W1 fun gx => ?_
  refine cv (f236 (i := i) ?_) ?_
  · omega
  cases dead
  · refine W ?_
    refine w_bs1 eWr (i, x) rfl rfl rfl (by decide) fun gt => ?_
    refine W ?_
    refine w_ap eWr sel_ (rd_row mem_) (by simp; omega) (by simp; omega) fun a c' => ?_
    refine W ?_
    refine finE ⟨_, rfl, .inr ⟨rfl, rfl, rfl⟩⟩ ?_
    refine ent_ex ⟨gs, cs, a, c', sure, loose ++ [((i : Int), x)]⟩ (ent_pur ⟨h1, h2, h3, by simp; omega, by omega, ?_, ?_⟩ ent_)
    · intro p hp
      rcases List.mem_append.1 hp with hp | hp
      · exact h5 p hp
      · simp at hp; subst hp; simp only [Dev.set]; omega
    · intro _ j hj
      have hj : j < n := hj
      have := h6 rfl j hj
      simp only [Dev.set, look, lastW_app, lastW]
      by_cases e : j = i
      · subst e; simp
      · have e' : ¬ (i : Int) = (j : Int) := by omega
        simp [e, e', this, look]
  · refine W ?_
    exact finE ⟨_, rfl, .inl ⟨rfl, rfl, rfl⟩⟩ (ent_ex ⟨gs, cs, al, c, sure, loose⟩ (ent_pur ⟨h1, h2, h3, h4, hK, h5, h6⟩ ent_))
theorem flush_look (sure : List Blk) (loose : List (Int × Blk)) (i : Nat) (hi : i < sure.length) (h : ∀ p ∈ loose, 0 ≤ p.1 ∧ p.1 < sure.length) : look (loose.foldl (fun s p => s.set p.1.toNat p.2) sure) [] i = look sure loose i := by
  induction loose generalizing sure with
  | nil => rfl
  | cons p l ih =>
    have hp := h p (by simp)
    rw [List.foldl_cons, ih _ (by simpa using hi) (fun q hq => by simpa using h q (by simp [hq]))]
    simp only [look, lastW]
    cases lastW l i with
    | some x => simp
    | none =>
      simp only [Option.none_or, Option.getD_none]
      by_cases e : p.1 = (i : Int)
      · simp [e, List.getD_eq_getElem?_getD, hi]
      · have e' : ¬ p.1.toNat = i := by omega
        simp [e, e', List.getD_eq_getElem?_getD, List.getElem?_set_ne]
theorem f191 {gd k : Nat} {d : Dev} : Ct Tryz.prog 191 [PP gd] [DiskC gd d k] (fun v L => v = I (if d.dead then 9 else 0) ∧ L = [DiskC gd d k]) := by
  refine w_ct Tryz.func191 rfl Tryz.ntmps191 rfl fun w B => ?_
  obtain ⟨n, rd, dead⟩ := d
  refine g_ex rfl Sel.hd fun ⟨gs, cs, al, c, sure, loose⟩ => ?_
  refine g_pure rfl Sel.hd fun ⟨h1, h2, h3, h4, hK, h5, h6⟩ => ?_
  simp only at h1 h2 h3 h5 h6
  refine W ?_
  refine cv (f236 (i := 0) ?_) ?_
  · omega
  cases dead
  · refine W ?_
    have h6 := h6 rfl
    let ap : Nat → List Blk := fun j => (loose.take j).foldl (fun s p => s.set p.1.toNat p.2) sure
    refine w_loop (γ := Nat) (fun j => [(0, PP gd), (14, .slice al loose.length c), (15, I loose.length), (16, I j)]) (fun j => [cl gd [.slice (some ⟨gs, 0, none⟩) sure.length cs, .slice al loose.length c, .bool false] 105, rowc eBlk 51 (ap j) gs cs, sv eWr 284 loose al c])
      (fun j => j ≤ loose.length ∧ (ap j).length = n) (fun j => loose.length - j) 0 sl_ ent_ ⟨Nat.zero_le _, h1⟩ fun j B ⟨hj, hl⟩ => ?_
    refine W ?_
    refine w_if rfl (fun h => ?_) (fun h => ?_)
    · refine g_svp rfl sel_ (by omega) fun g hg => ?_
      subst hg
      have hp := h5 loose[j] (List.getElem_mem _)
      have e : ap (j + 1) = (ap j).set loose[j].1.toNat loose[j].2 := by
        simp only [ap]
        rw [List.take_succ_eq_append_getElem (by omega), List.foldl_append]; rfl
      refine W1 fun gw => ?_
      refine w_stE (E := eBlk) (i := loose[j].1.toNat) (x := loose[j].2) inferInstance rfl rfl rfl ?_ rfl upd_ ?_
      · omega
      refine W ?_
      refine w_land rfl (w_round (j + 1) ⟨by omega, ?_⟩ (by omega) sl_ ?_)
      · rw [e]; simpa using hl
      · show Ent _ [cl gd [.slice (some ⟨gs, 0, none⟩) sure.length cs, .slice (some ⟨g, 0, none⟩) loose.length c, .bool false] 105, rowc eBlk 51 (ap (j + 1)) gs cs, sv eWr 284 loose (some ⟨g, 0, none⟩) c]
        rw [e]
        exact Ent.sel sel_ (Ent.sel sel_ (ent_sv ent_))
    · obtain rfl : j = loose.length := by omega
      refine W ?_
      refine finE ⟨_, rfl, rfl, rfl⟩ ?_
      have hap : ap loose.length = loose.foldl (fun s p => s.set p.1.toNat p.2) sure := by simp [ap]
      refine ent_ex ⟨gs, cs, none, 0, ap loose.length, []⟩ (ent_pur ⟨hl, h2, h3, by simp, hK, by simp, ?_⟩ ?_)
      · intro _ i hi
        rw [hap]
        show rd i = _
        rw [h6 i hi]
        exact (flush_look sure loose i (by omega) (fun p hp => by have := h5 p hp; omega)).symm
      · rw [hl, ← h1]
        exact Ent.sel sel_ (Ent.sel sel_ (ent_svn .nil))
  · refine W ?_
    exact finE ⟨_, rfl, rfl, rfl⟩ (ent_ex ⟨gs, cs, al, c, sure, loose⟩ (ent_pur ⟨h1, h2, h3, h4, hK, h5, h6⟩ ent_))
end Go.Proofs.YtnilejkfbcnkkaaGreatDoor.V
end
section
set_option maxRecDepth 100000
namespace Go.Proofs.YtnilejkfbcnkkaaGreatDoor.V
open Go Go.RowKit
attribute [local irreducible] Yields cl blk pur rowc sv exC fo

def ePt : Enc Nat := ⟨fun g => [PP g], 1, fun _ => rfl, by simp [Value.oneCell'], by omega⟩
instance : EncV ePt (fun g => [PP g]) := ⟨rfl⟩
structure Ben where
  ds : List Dev
  k : Nat
def dks (k : Nat) (ps : List Nat) (ds : List Dev) : Hp := List.zipWith (fun p d => DiskC p d k) ps ds
def BenM (gb : Nat) (b : Ben) : Nat × Nat × List Nat × Nat → Hp := fun ⟨gs, cs, ps, st⟩ =>
  pur (ps.length = b.ds.length ∧ 0 < ps.length ∧ ps.length ≤ 17 ∧ st ≤ b.k ∧ b.k ≤ 1099511627776) :: cl gb [.slice (some ⟨gs, 0, none⟩) ps.length cs, I st, I 0, .bool false] 71 :: rowc ePt 68 ps gs cs :: dks b.k ps b.ds
def BenC (gb : Nat) (b : Ben) : Chunk := exC 21 (BenM gb b)
/-- all disks but one -/
def RestC (k : Nat) (ps : List Nat) (ds : List Dev) (i : Nat) : Chunk := exC 22 (fun _ : Unit => (dks k ps ds).eraseIdx i)

theorem disk_mono {g k k' : Nat} {d : Dev} (h : k ≤ k') (hk : k' ≤ 1099511627776) {B : Blks} (hB : (DiskC g d k).P B) : (DiskC g d k').P B := by
  unfold DiskC exC at *
  obtain ⟨⟨gs, cs, al, c, sure, loose⟩, B1, B2, rfl, h1, h2⟩ := hB
  unfold pur at h1
  obtain ⟨⟨a1, a2, a3, a4, a5, a6, a7⟩, rfl⟩ := h1
  refine ⟨⟨gs, cs, al, c, sure, loose⟩, [], B2, rfl, ?_, h2⟩
  unfold pur
  exact ⟨⟨a1, a2, a3, by omega, hk, a6, a7⟩, rfl⟩
theorem ent_disk {g k k' : Nat} {d : Dev} {L K : Hp} (h : k ≤ k') (hk : k' ≤ 1099511627776) (he : Ent L (DiskC g d k :: K)) : Ent L (DiskC g d k' :: K) :=
  he.trans fun B hB => by obtain ⟨B1, B2, rfl, h1, h2⟩ := hB; exact ⟨B1 ++ B2, [], by simp, B1, B2, rfl, disk_mono h hk h1, h2⟩
theorem dks_mono {k k' : Nat} (h : k ≤ k') (hk : k' ≤ 1099511627776) : ∀ (ps : List Nat) (ds : List Dev), Ent (dks k ps ds) (dks k' ps ds)
  | [], _ => by simp only [dks, List.zipWith_nil_left]; exact .refl _
  | _ :: _, [] => by simp only [dks, List.zipWith_nil_right]; exact .refl _
  | p :: ps, d :: ds => (Ent.cons _ (dks_mono h hk ps ds)).trans (ent_disk h hk (.refl _))
theorem perm_erase {α : Type} {a : α} : ∀ {l : List α} {i : Nat}, l[i]? = some a → l.Perm (a :: l.eraseIdx i)
  | [], i, h => by simp at h
  | x :: l, 0, h => by simp at h; subst h; exact .refl _
  | x :: l, i + 1, h => (List.Perm.cons x (perm_erase (l := l) (i := i) (by simpa using h))).trans (.swap ..)
theorem dks_split {k : Nat} {ps : List Nat} {ds : List Dev} {i : Nat} {p : Nat} {d : Dev} (hp : ps[i]? = some p) (hd : ds[i]? = some d) : (dks k ps ds).Perm (DiskC p d k :: (dks k ps ds).eraseIdx i) := by
  have hi : i < (dks k ps ds).length := by
    have h1 := (List.getElem?_eq_some_iff.1 hp).1
    have h2 := (List.getElem?_eq_some_iff.1 hd).1
    simp only [dks, List.length_zipWith]; omega
  have hv : (dks k ps ds)[i] = DiskC p d k := by
    have : (dks k ps ds)[i]? = some (DiskC p d k) := by simp [dks, List.getElem?_zipWith, hp, hd]
    exact (List.getElem?_eq_some_iff.1 this).2
  exact perm_erase (by rw [List.getElem?_eq_getElem hi, hv])
theorem dks_erase {k : Nat} {ps : List Nat} {ds : List Dev} {i : Nat} {p : Nat} {d : Dev} : (dks k (ps.set i p) (ds.set i d)).eraseIdx i = (dks k ps ds).eraseIdx i := by
  simp only [dks]
  refine List.ext_getElem? fun j => ?_
  simp only [List.getElem?_eraseIdx, List.getElem?_zipWith]
  split
  · rw [List.getElem?_set_ne (by omega), List.getElem?_set_ne (by omega)]
  · rw [List.getElem?_set_ne (by omega), List.getElem?_set_ne (by omega)]

section
variable {n : Fp} {w0 : World} {S : Nat → Prop} {X : Post} {R : Regs} {L K : Hp} {kd : Kd} {gb : Nat} {b : Ben}
/-- a bench, with one disk taken out -/
theorem g_ben (hk : kd.plain = true) (hs : Sel (BenC gb b) L K) {i : Nat} {d : Dev} (hi : b.ds[i]? = some d)
    (h : ∀ gs cs ps st p, ps.length = b.ds.length → 0 < ps.length → ps.length ≤ 17 → st ≤ b.k → b.k ≤ 1099511627776 → ps[i]? = some p →
      Gl n w0 S X kd R (cl gb [.slice (some ⟨gs, 0, none⟩) ps.length cs, I st, I 0, .bool false] 71 :: rowc ePt 68 ps gs cs :: DiskC p d b.k :: RestC b.k ps b.ds i :: K)) : Gl n w0 S X kd R L := by
  refine g_ex hk hs fun ⟨gs, cs, ps, st⟩ => ?_
  refine g_pure hk Sel.hd fun ⟨h1, h2, h3, h4, h5⟩ => ?_
  have hlt : i < ps.length := by have := (List.getElem?_eq_some_iff.1 hi).1; omega
  refine g_ent hk ?_ (h gs cs ps st ps[i] h1 h2 h3 h4 h5 (List.getElem?_eq_getElem hlt))
  refine Ent.cons _ (Ent.cons _ ?_)
  refine (Ent.perm ((dks_split (List.getElem?_eq_getElem hlt) hi).append_right K)).trans ?_
  refine Ent.cons _ ?_
  exact Ent.fold (M := (dks b.k ps b.ds).eraseIdx i) (fun B hB => by unfold RestC exC; exact ⟨(), hB⟩) (.refl _)
/-- and put back, that disk turned -/
theorem ent_ben {gs cs st p k' i : Nat} {ps : List Nat} {ds : List Dev} {k : Nat} {d' : Dev} (h1 : ps.length = ds.length) (h2 : 0 < ps.length) (h3 : ps.length ≤ 17) (h4 : st ≤ k') (h5 : k' ≤ 1099511627776) (hk : k ≤ k') (hi : i < ps.length)
    (h : Ent L (cl gb [.slice (some ⟨gs, 0, none⟩) (ps.set i p).length cs, I st, I 0, .bool false] 71 :: rowc ePt 68 (ps.set i p) gs cs :: DiskC p d' k' :: RestC k ps ds i :: K)) : Ent L (BenC gb ⟨ds.set i d', k'⟩ :: K) := by
  refine ent_ex ⟨gs, cs, ps.set i p, st⟩ (ent_pur ⟨by simpa using h1, by simpa using h2, by simpa using h3, h4, h5⟩ (h.trans (Ent.cons _ (Ent.cons _ ?_))))
  have e1 : (ps.set i p)[i]? = some p := by simp [hi]
  have e2 : (ds.set i d')[i]? = some d' := by simp [← h1, hi]
  refine Ent.trans ?_ (Ent.perm ((dks_split (k := k') e1 e2).symm.append_right K))
  refine Ent.cons _ ?_
  have : Ent (RestC k ps ds i :: K) ((dks k ps ds).eraseIdx i ++ K) := by
    intro B hB
    obtain ⟨B1, B2, rfl, hr, h2⟩ := hB
    unfold RestC exC at hr
    obtain ⟨_, hr⟩ := hr
    exact ⟨B1 ++ B2, [], by simp, Sat.app.2 ⟨B1, B2, rfl, hr, h2⟩⟩
  refine this.trans (Ent.appL ?_ K)
  rw [dks_erase]
  have key : ∀ (ps : List Nat) (ds : List Dev) (i : Nat), Ent ((dks k ps ds).eraseIdx i) ((dks k' ps ds).eraseIdx i) := by
    intro ps
    induction ps with
    | nil => intro ds i; simp only [dks, List.zipWith_nil_left]; exact .refl _
    | cons q ps ih =>
      intro ds i
      cases ds with
      | nil => simp only [dks, List.zipWith_nil_right]; exact .refl _
      | cons e ds =>
        cases i with
        | zero => exact dks_mono hk h5 ps ds
        | succ i => exact (Ent.cons _ (ih ds i)).trans (ent_disk hk h5 (.refl _))
  exact key ps ds i
/-- as it was -/
theorem ent_ben0 {gs cs st p i : Nat} {ps : List Nat} {d : Dev} (h1 : ps.length = b.ds.length) (h2 : 0 < ps.length) (h3 : ps.length ≤ 17) (h4 : st ≤ b.k) (h5 : b.k ≤ 1099511627776) (hp : ps[i]? = some p) (hd : b.ds[i]? = some d)
    (h : Ent L (cl gb [.slice (some ⟨gs, 0, none⟩) ps.length cs, I st, I 0, .bool false] 71 :: rowc ePt 68 ps gs cs :: DiskC p d b.k :: RestC b.k ps b.ds i :: K)) : Ent L (BenC gb b :: K) := by
  obtain ⟨hi, rfl⟩ := List.getElem?_eq_some_iff.1 hp
  obtain ⟨hi', rfl⟩ := List.getElem?_eq_some_iff.1 hd
  have := ent_ben (gb := gb) (L := L) (K := K) (ps := ps) (ds := b.ds) (i := i) (p := ps[i]) (d' := b.ds[i]) (k := b.k) (k' := b.k) (gs := gs) (cs := cs) h1 h2 h3 h4 h5 (Nat.le_refl _) hi (by simpa using h)
  simpa using this
end

section
variable {gb gs cs m : Nat} {v1 v2 v3 : Value}
theorem f52 (hn : 0 < m) : CtV Tryz.prog 52 [PP gb] [cl gb [.slice (some ⟨gs, 0, none⟩) m cs, v1, v2, v3] 71] (.bool false) := by
  refine w_ct Tryz.func52 rfl Tryz.ntmps52 rfl fun w B => ?_
  refine W ?_
  refine fin ⟨_, rfl, ?_, rfl⟩
  exact congrArg Value.bool (decide_eq_false (by omega))
theorem f53 {d : Nat} (hd : d < m) : CtV Tryz.prog 53 [PP gb, I d] [cl gb [.slice (some ⟨gs, 0, none⟩) m cs, v1, v2, v3] 71] (.bool true) := by
  refine w_ct Tryz.func53 rfl Tryz.ntmps53 rfl fun w B => ?_
  refine W ?_
  rw [decide_eq_true (show (0 : Int) ≤ d by omega)]
  refine W ?_
  refine fin ⟨_, rfl, ?_, rfl⟩
  exact congrArg Value.bool (decide_eq_true (by omega))
theorem f26 {d : Nat} (hd : d < m) : CtV Tryz.prog 26 [PP gb, I d] [cl gb [.slice (some ⟨gs, 0, none⟩) m cs, v1, v2, v3] 71] (I 0) := by
  refine w_ct Tryz.func26 rfl Tryz.ntmps26 rfl fun w B => ?_
  refine W ?_
  refine cv (f52 ?_) ?_
  · omega
  refine W ?_
  refine cv (f53 ?_) ?_
  · exact hd
  refine W ?_
  exact fin ⟨_, rfl, rfl, rfl⟩
theorem f216 {d : Nat} (hd : d < m) : CtV Tryz.prog 216 [PP gb, I d] [cl gb [.slice (some ⟨gs, 0, none⟩) m cs, v1, v2, .bool false] 71] (I 0) := by
  refine w_ct Tryz.func216 rfl Tryz.ntmps216 rfl fun w B => ?_
  refine W ?_
  refine cv (f52 ?_) ?_
  · omega
  refine W ?_
  refine cv (f26 ?_) ?_
  · exact hd
  refine W ?_
  exact fin ⟨_, rfl, rfl, rfl⟩
end
section
variable {gb : Nat} {b : Ben} {d : Nat} {dv : Dev}
theorem ptAt {ps : List Nat} {p i : Nat} (h : ps[i]? = some p) : ∃ hi : i < ps.length, ps[i] = p := List.getElem?_eq_some_iff.1 h
theorem f187 {i : Nat} (hd : b.ds[d]? = some dv) (hi : i < dv.n) : CtV Tryz.prog 187 [PP gb, I d, I i] [BenC gb b] (if dv.dead then T [BV blk0, I 9] else T [BV (dv.rd i), I 0]) := by
  refine w_ct Tryz.func187 rfl Tryz.ntmps187 rfl fun w B => ?_
  refine g_ben rfl Sel.hd hd fun gs cs ps st p h1 h2 h3 h4 h5 hp => ?_
  obtain ⟨hlt, hpe⟩ := ptAt hp
  refine W1 fun gx => ?_
  refine cv (f216 hlt) ?_
  refine W ?_
  rw [hpe]
  refine cv (f235 hi) ?_
  cases hdd : dv.dead
  · refine W ?_
    exact finE ⟨_, rfl, rfl, rfl⟩ (ent_ben0 h1 h2 h3 h4 h5 hp hd ent_)
  · refine W ?_
    exact finE ⟨_, rfl, rfl, rfl⟩ (ent_ben0 h1 h2 h3 h4 h5 hp hd ent_)
theorem f128 (hd : b.ds[d]? = some dv) : CtV Tryz.prog 128 [PP gb, I d] [BenC gb b] (I dv.n) := by
  refine w_ct Tryz.func128 rfl Tryz.ntmps128 rfl fun w B => ?_
  refine g_ben rfl Sel.hd hd fun gs cs ps st p h1 h2 h3 h4 h5 hp => ?_
  obtain ⟨hlt, hpe⟩ := ptAt hp
  refine W ?_
  refine cv (f26 hlt) ?_
  refine W ?_
  rw [hpe]
  refine cv f186 ?_
  refine W ?_
  exact finE ⟨_, rfl, rfl, rfl⟩ (ent_ben0 h1 h2 h3 h4 h5 hp hd ent_)
theorem f14 (hd : b.ds[d]? = some dv) : CtV Tryz.prog 14 [PP gb, I d] [BenC gb b] (.bool dv.dead) := by
  refine w_ct Tryz.func14 rfl Tryz.ntmps14 rfl fun w B => ?_
  refine g_ben rfl Sel.hd hd fun gs cs ps st p h1 h2 h3 h4 h5 hp => ?_
  obtain ⟨hlt, hpe⟩ := ptAt hp
  refine W ?_
  refine cv (f26 hlt) ?_
  refine W ?_
  rw [hpe]
  refine cv f37 ?_
  refine W ?_
  exact finE ⟨_, rfl, rfl, rfl⟩ (ent_ben0 h1 h2 h3 h4 h5 hp hd ent_)
theorem f10 (hd : b.ds[d]? = some dv) : Ct Tryz.prog 10 [PP gb, I d] [BenC gb b] (fun v L => v = I 0 ∧ L = [BenC gb ⟨b.ds.set d { dv with dead := true }, b.k⟩]) := by
  refine w_ct Tryz.func10 rfl Tryz.ntmps10 rfl fun w B => ?_
  refine g_ben rfl Sel.hd hd fun gs cs ps st p h1 h2 h3 h4 h5 hp => ?_
  obtain ⟨hlt, hpe⟩ := ptAt hp
  refine W ?_
  refine cv (f26 hlt) ?_
  refine W ?_
  rw [hpe]
  refine cl' f27 ?_
  rintro _ _ ⟨rfl, rfl⟩
  refine W ?_
  have e : ps.set d p = ps := by rw [← hpe]; simp
  exact finE ⟨_, rfl, rfl, rfl⟩ (ent_ben (p := p) (st := st) (gs := gs) (cs := cs) h1 h2 h3 h4 h5 (Nat.le_refl _) hlt (by rw [e]; exact ent_))
/-- a step, with its call -/
theorem f188 {gs cs m st f : Nat} {fs cs' : List Value} {L0 : Hp} {Q : Value → Hp → Prop} {vs : List Value} [BD Tryz.prog f] (hst : st < 1099511627776) (hv : fs ++ [] ++ cs' = vs)
    (hc : Ct Tryz.prog f vs (cl gb [.slice (some ⟨gs, 0, none⟩) m cs, I (st + 1 : Nat), I 0, .bool false] 71 :: L0) Q) : Ct Tryz.prog 188 [PP gb, .func (.func f) fs.toArray cs'.toArray] (cl gb [.slice (some ⟨gs, 0, none⟩) m cs, I st, I 0, .bool false] 71 :: L0) Q := by
  refine w_ct Tryz.func188 rfl Tryz.ntmps188 rfl fun w B => ?_
  refine W ?_
  refine cx (K := []) hc ?_ (hv := hv) (hp := by unfold Pick; rw [List.append_nil]; exact .refl _)
  intro v M hQ
  refine W ?_
  refine finE ⟨_, rfl, hQ⟩ (by rw [List.append_nil]; exact .refl _)
theorem f189 {g1 g2 g3 g4 gs cs st k i : Nat} {ps : List Nat} {p : Nat} {x : Blk} (hp : ps[d]? = some p) (hi : i < dv.n) (hk : k < 1099511627776) :
    Ct Tryz.prog 189 [PP g1, PP g2, PP g3, PP g4] [cl gb [.slice (some ⟨gs, 0, none⟩) ps.length cs, I st, I 0, .bool false] 71, rowc ePt 68 ps gs cs, DiskC p dv k, cl g1 [PP gb] 33, cl g2 [I d] 3, cl g3 [I i] 3, cl g4 (bl x) 51]
      (fun v L => ∃ d', ((dv.dead = true ∧ v = I 9 ∧ d' = DiskC p dv k) ∨ (dv.dead = false ∧ v = I 0 ∧ d' = DiskC p (dv.set i x) (k + 1))) ∧ L = [cl gb [.slice (some ⟨gs, 0, none⟩) ps.length cs, I st, I 0, .bool false] 71, rowc ePt 68 ps gs cs, d']) := by
  refine w_ct Tryz.func189 rfl Tryz.ntmps189 rfl fun w B => ?_
  obtain ⟨hlt, hpe⟩ := ptAt hp
  refine W ?_
  rw [hpe]
  refine cl' (f190 hi hk) ?_
  rintro _ _ (⟨e, rfl, rfl⟩ | ⟨e, rfl, rfl⟩)
  · refine W ?_
    exact finE ⟨_, rfl, _, .inl ⟨e, rfl, rfl⟩, rfl⟩ ent_
  · refine W ?_
    exact finE ⟨_, rfl, _, .inr ⟨e, rfl, rfl⟩, rfl⟩ ent_
theorem f129 {i : Nat} {x : Blk} (hd : b.ds[d]? = some dv) (hi : i < dv.n) (hk : b.k < 1099511627776) : Ct Tryz.prog 129 [PP gb, I d, I i, BV x] [BenC gb b]
    (fun v L => (dv.dead = true ∧ v = I 9 ∧ L = [BenC gb b]) ∨ (dv.dead = false ∧ v = I 0 ∧ L = [BenC gb ⟨b.ds.set d (dv.set i x), b.k + 1⟩])) := by
  refine w_ct Tryz.func129 rfl Tryz.ntmps129 rfl fun w B => ?_
  refine W4 fun g1 g2 g3 g4 => ?_
  refine cv (f187 hd hi) ?_
  cases hdd : dv.dead
  · refine W1 fun gx => ?_
    refine g_ben rfl sel_ hd fun gs cs ps st p h1 h2 h3 h4 h5 hp => ?_
    obtain ⟨hlt, hpe⟩ := ptAt hp
    refine cl' (f188 ?_ ?_ (f189 (g1 := g1) (g2 := g2) (g3 := g3) (g4 := g4) (x := x) hp hi hk)) ?_
    · omega
    · rfl
    rintro _ _ ⟨d', (⟨e, rfl, rfl⟩ | ⟨e, rfl, rfl⟩), rfl⟩
    · rw [hdd] at e; simp at e
    · refine W ?_
      have e : ps.set d p = ps := by rw [← hpe]; simp
      exact finE ⟨_, rfl, .inr ⟨rfl, rfl, rfl⟩⟩ (ent_ben (p := p) (st := st + 1) (gs := gs) (cs := cs) (k := b.k) h1 h2 h3 (by omega) (by omega) (by omega) hlt (by rw [e]; exact ent_))
  · refine W1 fun gx => ?_
    exact finE ⟨_, rfl, .inl ⟨rfl, rfl, rfl⟩⟩ ent_
theorem f130 (hd : b.ds[d]? = some dv) (hk : b.k < 1099511627776) (hn : 0 < dv.n) : Ct Tryz.prog 130 [PP gb, I d] [BenC gb b]
    (fun v L => (dv.dead = true ∧ v = I 9 ∧ L = [BenC gb b]) ∨ (dv.dead = false ∧ v = I 0 ∧ L = [BenC gb ⟨b.ds, b.k + 1⟩])) := by
  refine w_ct Tryz.func130 rfl Tryz.ntmps130 rfl fun w B => ?_
  refine W ?_
  refine cv (f187 (i := 0) hd ?_) ?_
  · exact hn
  cases hdd : dv.dead
  · refine W1 fun gx => ?_
    refine g_ben rfl sel_ hd fun gs cs ps st p h1 h2 h3 h4 h5 hp => ?_
    obtain ⟨hlt, hpe⟩ := ptAt hp
    refine W ?_
    rw [hpe]
    refine W ?_
    refine cl' (f188 ?_ ?_ (Ct.frame (L := cl gb [.slice (some ⟨gs, 0, none⟩) ps.length cs, I (st + 1 : Nat), I 0, .bool false] 71 :: [DiskC p dv b.k]) (K := [cl gb [.slice (some ⟨gs, 0, none⟩) ps.length cs, I (st + 1 : Nat), I 0, .bool false] 71]) (f191 (gd := p) (d := dv) (k := b.k)) (Ent.perm (List.Perm.swap _ _ _)))) ?_
    · omega
    · rfl
    rintro _ _ ⟨_, ⟨rfl, rfl⟩, rfl⟩
    rw [hdd]
    refine W ?_
    have e : ps.set d p = ps := by rw [← hpe]; simp
    have e' : b.ds.set d dv = b.ds := by obtain ⟨h, h'⟩ := List.getElem?_eq_some_iff.1 hd; rw [← h']; simp
    refine finE ⟨_, rfl, .inr ⟨rfl, rfl, rfl⟩⟩ ?_
    rw [show (⟨b.ds, b.k + 1⟩ : Ben) = ⟨b.ds.set d dv, b.k + 1⟩ by rw [e']]
    exact ent_ben (p := p) (st := st + 1) (gs := gs) (cs := cs) (k := b.k) (ps := ps) h1 h2 h3 (by omega) (by omega) (by omega) hlt (by rw [e]; exact Ent.sel sel_ (Ent.sel sel_ (ent_disk (k := b.k) (by omega) (by omega) ent_)))
  · refine W1 fun gx => ?_
    exact finE ⟨_, rfl, .inl ⟨rfl, rfl, rfl⟩⟩ ent_
theorem f175 (hd : b.ds[d]? = some dv) (hn : 1 ≤ dv.n) (hn' : dv.n ≤ 512) : Ct Tryz.prog 175 [PP gb, I d] [BenC gb b]
    (fun v L => (dv.dead = false ∧ v = I 17 ∧ L = [BenC gb b]) ∨ (dv.dead = true ∧ v = I 0 ∧ L = [BenC gb ⟨b.ds.set d ⟨dv.n, fun _ => blk0, false⟩, b.k⟩])) := by
  refine w_ct Tryz.func175 rfl Tryz.ntmps175 rfl fun w B => ?_
  refine g_ben rfl sel_ hd fun gs cs ps st p h1 h2 h3 h4 h5 hp => ?_
  obtain ⟨hlt, hpe⟩ := ptAt hp
  refine W ?_
  refine cv (f216 hlt) ?_
  refine W ?_
  rw [hpe]
  refine cv f37 ?_
  cases hdd : dv.dead
  · refine W ?_
    exact finE ⟨_, rfl, .inl ⟨rfl, rfl, rfl⟩⟩ (ent_ben0 h1 h2 h3 h4 h5 hp hd ent_)
  · refine W ?_
    rw [hpe]
    refine cv f186 ?_
    refine cl' (f46 hn hn') ?_
    rintro _ _ ⟨p', rfl, rfl⟩
    refine W ?_
    refine w_stE (E := ePt) (i := d) (x := p') inferInstance rfl rfl rfl hlt rfl upd_ ?_
    refine W ?_
    exact finE ⟨_, rfl, .inr ⟨rfl, rfl, rfl⟩⟩ (ent_ben (p := p') (st := st) (gs := gs) (cs := cs) (k := b.k) (ps := ps) h1 h2 h3 h4 h5 (Nat.le_refl _) hlt (by rw [List.length_set]; exact Ent.sel sel_ (Ent.sel sel_ (ent_disk (k := 0) (by omega) h5 ent_))))
theorem f80 (hd : b.ds[d]? = some dv) : CtV Tryz.prog 80 [PP gb] [BenC gb b] (I b.ds.length) := by
  refine w_ct Tryz.func80 rfl Tryz.ntmps80 rfl fun w B => ?_
  refine g_ben rfl sel_ hd fun gs cs ps st p h1 h2 h3 h4 h5 hp => ?_
  refine W ?_
  refine cv (f52 h2) ?_
  refine W ?_
  exact finE (v := I ps.length) ⟨_, rfl, by rw [h1], rfl⟩ (ent_ben0 h1 h2 h3 h4 h5 hp hd ent_)
theorem f82 (hd : b.ds[d]? = some dv) : CtV Tryz.prog 82 [PP gb] [BenC gb b] (.bool false) := by
  refine w_ct Tryz.func82 rfl Tryz.ntmps82 rfl fun w B => ?_
  refine g_ben rfl sel_ hd fun gs cs ps st p h1 h2 h3 h4 h5 hp => ?_
  refine W ?_
  refine cv (f52 h2) ?_
  refine W ?_
  exact finE ⟨_, rfl, rfl, rfl⟩ (ent_ben0 h1 h2 h3 h4 h5 hp hd ent_)
end
/-- some disks -/
def DksC (k : Nat) (ps : List Nat) (ds : List Dev) : Chunk := exC 23 (fun _ : Unit => dks k ps ds)
theorem DksC_snoc {k p : Nat} {ps : List Nat} {ds : List Dev} {d : Dev} {L K : Hp} (hl : ps.length = ds.length) (h : Ent L (DiskC p d k :: DksC k ps ds :: K)) : Ent L (DksC k (ps ++ [p]) (ds ++ [d]) :: K) := by
  refine h.trans (ent_ex () ?_)
  have : dks k (ps ++ [p]) (ds ++ [d]) = dks k ps ds ++ [DiskC p d k] := by simp [dks, List.zipWith_append, hl]
  rw [this]
  have e : Ent (DiskC p d k :: DksC k ps ds :: K) (DiskC p d k :: (dks k ps ds ++ K)) := Ent.cons _ (by
    intro B hB
    obtain ⟨B1, B2, rfl, hr, h2⟩ := hB
    unfold DksC exC at hr
    obtain ⟨_, hr⟩ := hr
    exact ⟨B1 ++ B2, [], by simp, Sat.app.2 ⟨B1, B2, rfl, hr, h2⟩⟩)
  refine e.trans (Ent.perm ?_)
  simp only [List.append_assoc, List.singleton_append]
  exact (List.perm_middle).symm
theorem DksC_nil {k : Nat} {ds : List Dev} {L K : Hp} (h : Ent L K) : Ent L (DksC k [] ds :: K) := ent_ex () (by simpa [dks] using h)
theorem DksC_open {k : Nat} {ps : List Nat} {ds : List Dev} {L K : Hp} (h : Ent L (DksC k ps ds :: K)) : Ent L (dks k ps ds ++ K) := h.trans (by
    intro B hB
    obtain ⟨B1, B2, rfl, hr, h2⟩ := hB
    unfold DksC exC at hr
    obtain ⟨_, hr⟩ := hr
    exact ⟨B1 ++ B2, [], by simp, Sat.app.2 ⟨B1, B2, rfl, hr, h2⟩⟩)
def fresh (n : Nat) : Dev := ⟨n, fun _ => blk0, false⟩
def eNat : Enc Nat := ⟨fun x => [I x], 1, fun _ => rfl, by simp [Value.oneCell'], by omega⟩
instance : EncV eNat (fun x => [I x]) := ⟨rfl⟩
theorem f21 {g cap : Nat} {ns : List Nat} (h1 : 1 ≤ ns.length) (h2 : ns.length ≤ 17) (hn : ∀ n ∈ ns, 1 ≤ n ∧ n ≤ 512) : Ct Tryz.prog 21 [.slice (some ⟨g, 0, none⟩) ns.length cap] [rowc eNat 3 ns g cap] (fun v L => ∃ gb, v = T [PP gb, I 0] ∧ L = [BenC gb ⟨ns.map fresh, 0⟩]) := by
  refine w_ct Tryz.func21 rfl Tryz.ntmps21 rfl fun w B => ?_
  refine W ?_
  rw [decide_eq_false (show ¬ ((ns.length : Int) < 1) by omega)]
  refine W ?_
  rw [decide_eq_false (show ¬ ((17 : Int) < ns.length) by omega)]
  refine W1 fun gb => ?_
  refine w_loop (γ := Nat × Option Addr × Nat × List Nat) (fun ⟨j, al, cs, ps⟩ => [(4, PP gb), (19, .slice (some ⟨g, 0, none⟩) ns.length cap), (20, I ns.length), (21, I j)]) (fun ⟨j, al, cs, ps⟩ => [cl gb [.slice al ps.length cs, I 0, I 0, .bool false] 71, sv ePt 68 ps al cs, rowc eNat 3 ns g cap, DksC 0 ps ((ns.take j).map fresh)])
    (fun ⟨j, al, cs, ps⟩ => j ≤ ns.length ∧ ps.length = j) (fun x => ns.length - x.1) (0, none, 0, []) sl_ (Ent.sel sel_ (ent_svn (Ent.sel sel_ (DksC_nil ent_)))) ⟨Nat.zero_le _, rfl⟩ fun ⟨j, al, cs, ps⟩ B ⟨hj, hl⟩ => ?_
  dsimp only
  refine W ?_
  refine w_if rfl (fun h => ?_) (fun h => ?_)
  · refine W ?_
    have hm := hn ns[j] (List.getElem_mem _)
    refine cl' (f46 hm.1 hm.2) ?_
    rintro _ _ ⟨p, rfl, rfl⟩
    refine W ?_
    refine w_bs1 ePt p rfl rfl rfl (by decide) fun gt => ?_
    refine W ?_
    refine w_ap ePt sel_ (rd_row mem_) (by simp; omega) (by simp; omega) fun a c' => ?_
    refine W ?_
    refine w_land rfl (w_round (j + 1, a, c', ps ++ [p]) ⟨by omega, by simp [hl]⟩ (by show ns.length - (j + 1) < ns.length - j; omega) sl_ ?_)
    refine Ent.sel sel_ (Ent.sel sel_ (Ent.sel sel_ ?_))
    rw [List.take_succ_eq_append_getElem (by omega), List.map_append]
    exact DksC_snoc (by simp; omega) ent_
  · obtain rfl : j = ns.length := by omega
    refine W ?_
    refine g_svp rfl sel_ (by omega) fun gs hg => ?_
    subst hg
    refine finE ⟨_, rfl, gb, rfl, rfl⟩ ?_
    refine ent_ex ⟨gs, cs, ps, 0⟩ (ent_pur ⟨by simp [hl], by omega, by omega, Nat.le_refl _, by show (0 : Nat) ≤ 1099511627776; omega⟩ (Ent.sel sel_ (Ent.sel sel_ (DksC_open ?_))))
    rw [List.take_length]
    exact ent_
end Go.Proofs.YtnilejkfbcnkkaaGreatDoor.V
end
section
set_option maxRecDepth 100000
namespace Go.Proofs.YtnilejkfbcnkkaaGreatDoor.V
open Go Go.RowKit
attribute [local irreducible] Yields cl blk pur rowc sv exC fo

structure Geo where
  m : Nat
  s : Nat
  r : Nat
abbrev geL (g : Geo) : List Value := [I g.m, I g.s, I g.r]
abbrev GV (g : Geo) : Value := A (geL g)
structure GeoOk (g : Geo) : Prop where
  m3 : 3 ≤ g.m
  m16 : g.m ≤ 16
  s1 : 1 ≤ g.s
  s64 : g.s ≤ 64
  r40 : 40 ≤ g.r
  r256 : g.r ≤ 256
def Geo.par (g : Geo) (n : Nat) : Nat := g.m - 1 - n % g.m
def Geo.dat (g : Geo) (n i : Nat) : Nat := (g.par n + 1 + i) % g.m
def Geo.blocks (g : Geo) : Nat := g.s * (g.m - 1)

theorem f120 {n lo hi : Int} : CtV Tryz.prog 120 [.int .i64 n, .int .i64 lo, .int .i64 hi] [] (.bool (decide (lo ≤ n ∧ n ≤ hi))) := by
  refine w_ct Tryz.func120 rfl Tryz.ntmps120 rfl fun w B => ?_
  refine W ?_
  by_cases h : lo ≤ n
  · rw [decide_eq_true h]
    refine W ?_
    exact fin (v := .bool (decide (n ≤ hi))) ⟨_, rfl, by simp [h], rfl⟩
  · rw [decide_eq_false h]
    refine W ?_
    exact fin (v := .bool false) ⟨_, rfl, by simp [h], rfl⟩
theorem wi {n lo hi : Int} (h : lo ≤ n ∧ n ≤ hi) : CtV Tryz.prog 120 [.int .i64 n, .int .i64 lo, .int .i64 hi] [] (.bool true) := by
  have := @f120 n lo hi; rwa [decide_eq_true h] at this
theorem wo {n lo hi : Int} (h : ¬ (lo ≤ n ∧ n ≤ hi)) : CtV Tryz.prog 120 [.int .i64 n, .int .i64 lo, .int .i64 hi] [] (.bool false) := by
  have := @f120 n lo hi; rwa [decide_eq_false h] at this
theorem f71 {g : Geo} (hg : GeoOk g) : CtV Tryz.prog 71 [GV g] [] (.bool true) := by
  obtain ⟨h1, h2, h3, h4, h5, h6⟩ := hg
  refine w_ct Tryz.func71 rfl Tryz.ntmps71 rfl fun w B => ?_
  refine W1 fun g1 => ?_
  refine cv (wi ?_) ?_
  · omega
  refine W ?_
  refine cv (wi ?_) ?_
  · omega
  refine W ?_
  refine cv (wi ?_) ?_
  · omega
  refine W ?_
  exact fin ⟨_, rfl, rfl, rfl⟩
theorem f64 {g : Geo} (hg : GeoOk g) : CtV Tryz.prog 64 [GV g] [] (I g.blocks) := by
  have hg' := hg
  obtain ⟨h1, h2, h3, h4, h5, h6⟩ := hg
  refine w_ct Tryz.func64 rfl Tryz.ntmps64 rfl fun w B => ?_
  refine W1 fun g1 => ?_
  refine cv (f71 hg') ?_
  have e : ((g.s : Int) * ((g.m : Int) - 1)) = (g.blocks : Int) := by unfold Geo.blocks; rw [Int.natCast_mul, show ((g.m - 1 : Nat) : Int) = g.m - 1 by omega]
  have e' : g.blocks ≤ 64 * 15 := by unfold Geo.blocks; exact Nat.mul_le_mul h4 (by omega)
  refine W ?_
  exact fin (v := .int .i64 ((g.s : Int) * ((g.m : Int) - 1))) ⟨_, rfl, by rw [e], rfl⟩
theorem f121 {g : Geo} (hg : GeoOk g) {n : Nat} : CtV Tryz.prog 121 [GV g, I n] [] (I (g.par n)) := by
  obtain ⟨h1, h2, h3, h4, h5, h6⟩ := hg
  refine w_ct Tryz.func121 rfl Tryz.ntmps121 rfl fun w B => ?_
  have hm : n % g.m < g.m := Nat.mod_lt _ (by omega)
  have hm' : (n : Int) % (g.m : Int) = ((n % g.m : Nat) : Int) := by simp
  refine W1 fun g1 => ?_
  refine fin (v := .int .i64 _) ⟨_, rfl, ?_, rfl⟩
  unfold Geo.par
  rw [hm', show ((g.m - 1 - n % g.m : Nat) : Int) = g.m - 1 - (n % g.m : Nat) by omega]
theorem f199 {g : Geo} (hg : GeoOk g) {n : Nat} (hn : n < g.s) : CtV Tryz.prog 199 [GV g, I n] [] (I 0) := by
  have hg' := hg
  obtain ⟨h1, h2, h3, h4, h5, h6⟩ := hg
  refine w_ct Tryz.func199 rfl Tryz.ntmps199 rfl fun w B => ?_
  refine W1 fun g1 => ?_
  refine cv (f71 hg') ?_
  refine W ?_
  refine cv (wi ?_) ?_
  · omega
  refine W ?_
  exact fin ⟨_, rfl, rfl, rfl⟩
theorem f145 {g : Geo} (hg : GeoOk g) {n : Nat} (hn : n < g.s) : CtV Tryz.prog 145 [GV g, I n] [] (T [I (g.par n), I 0]) := by
  refine w_ct Tryz.func145 rfl Tryz.ntmps145 rfl fun w B => ?_
  refine W1 fun g1 => ?_
  refine cv (f199 hg hn) ?_
  refine W ?_
  refine cv (f121 hg) ?_
  refine W ?_
  exact fin ⟨_, rfl, rfl, rfl⟩
theorem f214 {n : Nat} (hn : n < 64) : CtV Tryz.prog 214 [I n] [] (T [I (2 + n : Nat), I 0]) := by
  refine w_ct Tryz.func214 rfl Tryz.ntmps214 rfl fun w B => ?_
  refine W ?_
  refine cv (wi ?_) ?_
  · omega
  refine W ?_
  exact fin ⟨_, rfl, rfl, rfl⟩
theorem par_lt {g : Geo} (hg : GeoOk g) (n : Nat) : g.par n < g.m := by have := hg.m3; unfold Geo.par; omega
theorem f144 {g : Geo} (hg : GeoOk g) {n : Nat} (hn : n < g.s) : Ct Tryz.prog 144 [GV g, I n] [] (fun v L => ∃ a, v = T [.slice (some ⟨a, 0, none⟩) (g.m - 1) (g.m - 1), I 0] ∧ L = [rowc eNat 3 ((List.range (g.m - 1)).map (g.dat n)) a (g.m - 1)]) := by
  have hg' := hg
  obtain ⟨h1, h2, h3, h4, h5, h6⟩ := hg
  refine w_ct Tryz.func144 rfl Tryz.ntmps144 rfl fun w B => ?_
  refine W1 fun g1 => ?_
  refine cv (f199 hg' hn) ?_
  refine W ?_
  refine w_mk (E := eNat) 0 (g.m - 1) rfl inferInstance rfl (ie (by omega)) (ie (by omega)) (by simp only [maxLen]; omega) (by omega) fun a => ?_
  rw [List.length_replicate]
  refine W ?_
  have hp := par_lt hg' n
  let dl : Nat → List Nat := fun j => (List.range j).map (g.dat n) ++ List.replicate (g.m - 1 - j) 0
  refine w_loop (γ := Nat) (fun j => [(1, I n), (2, PP g1), (7, .slice (some ⟨a, 0, none⟩) (g.m - 1) (g.m - 1)), (20, I (g.m - 1 : Nat)), (21, I j)]) (fun j => [cl g1 (geL g) 27, rowc eNat 3 (dl j) a (g.m - 1)])
    (fun j => j ≤ g.m - 1) (fun j => g.m - 1 - j) 0 sl_ ?_ (Nat.zero_le _) fun j B hj => ?_
  · show Ent _ [cl g1 (geL g) 27, rowc eNat 3 (dl 0) a (g.m - 1)]
    simp only [dl, List.range_zero, List.map_nil, List.nil_append, Nat.sub_zero]
    exact ent_
  have hdl : (dl j).length = g.m - 1 := by simp [dl]; omega
  refine W ?_
  refine w_if rfl (fun h => ?_) (fun h => ?_)
  · refine W ?_
    refine cv (f121 hg') ?_
    refine W ?_
    rw [show ((g.par n : Int) + 1 + j) % g.m = ((g.dat n j : Nat) : Int) by simp [Geo.dat]]
    refine w_stE (E := eNat) (i := j) (x := g.dat n j) inferInstance rfl rfl rfl ?_ rfl upd_ ?_
    · omega
    refine W ?_
    refine w_land rfl (w_round (j + 1) (by omega) (by omega) sl_ ?_)
    have e : (dl j).set j (g.dat n j) = dl (j + 1) := by
      refine List.ext_getElem? fun i => ?_
      simp only [dl, List.getElem?_set, List.getElem?_append, List.length_map, List.length_range, List.getElem?_map, List.getElem?_replicate, List.getElem?_range]
      by_cases h1 : i < j
      · simp [h1, show ¬ j = i by omega, show i < j + 1 by omega]
      · by_cases h2 : i = j
        · subst h2; simp; omega
        · have e : (i - j < g.m - 1 - j) ↔ (i - (j + 1) < g.m - 1 - (j + 1)) := by omega
          simp [h1, show ¬ j = i by omega, show ¬ i < j + 1 by omega, e]
    rw [← e]
    exact ent_
  · obtain rfl : j = g.m - 1 := by omega
    refine W ?_
    refine finE ⟨_, rfl, a, rfl, rfl⟩ ?_
    have e : dl (g.m - 1) = (List.range (g.m - 1)).map (g.dat n) := by simp [dl]
    rw [e]
    exact ent_
theorem f74 {g : Geo} (hg : GeoOk g) {n : Nat} (hn : n < g.blocks) : CtV Tryz.prog 74 [GV g, I n] [] (T [A [I (n / (g.m - 1) : Nat), I (g.dat (n / (g.m - 1)) (n % (g.m - 1)))], I 0]) := by
  have hg' := hg
  obtain ⟨h1, h2, h3, h4, h5, h6⟩ := hg
  refine w_ct Tryz.func74 rfl Tryz.ntmps74 rfl fun w B => ?_
  have e' : g.blocks ≤ 64 * 15 := by unfold Geo.blocks; exact Nat.mul_le_mul h4 (by omega)
  refine W2 fun g1 g2 => ?_
  refine cv (f71 hg') ?_
  refine W ?_
  refine cv (f64 hg') ?_
  refine W ?_
  refine cv (wi ?_) ?_
  · omega
  refine W ?_
  have e1 : (n : Int) / ((g.m : Int) - 1) = ((n / (g.m - 1) : Nat) : Int) := by rw [show (g.m : Int) - 1 = ((g.m - 1 : Nat) : Int) by omega]; simp
  have e2 : (n : Int) % ((g.m : Int) - 1) = ((n % (g.m - 1) : Nat) : Int) := by rw [show (g.m : Int) - 1 = ((g.m - 1 : Nat) : Int) by omega]; simp
  rw [e1, e2]
  have hp := par_lt hg' (n / (g.m - 1))
  have hr : n % (g.m - 1) < g.m - 1 := Nat.mod_lt _ (by omega)
  have e3 : ((g.par (n / (g.m - 1)) : Int) + 1 + ((n % (g.m - 1) : Nat) : Int)) % g.m = ((g.dat (n / (g.m - 1)) (n % (g.m - 1)) : Nat) : Int) := by simp [Geo.dat]
  generalize n / (g.m - 1) = q at *
  generalize n % (g.m - 1) = r at *
  refine cv (f121 hg') ?_
  refine W ?_
  rw [e3]
  refine W ?_
  exact fin ⟨_, rfl, rfl, rfl⟩
end Go.Proofs.YtnilejkfbcnkkaaGreatDoor.V
end
section
set_option maxRecDepth 100000
namespace Go.Proofs.YtnilejkfbcnkkaaGreatDoor.V
open Go Go.RowKit
attribute [local irreducible] Yields cl blk pur rowc sv exC fo

abbrev u8 (n : Nat) : Value := .int .u8 (n : Int)
structure Ros where
  g : Geo
  st : Nat → Nat
  cur : Nat
  gone : Bool
abbrev stL (st : Nat → Nat) : List Value := [u8 (st 0), u8 (st 1), u8 (st 2), u8 (st 3), u8 (st 4), u8 (st 5), u8 (st 6), u8 (st 7), u8 (st 8), u8 (st 9), u8 (st 10), u8 (st 11), u8 (st 12), u8 (st 13), u8 (st 14), u8 (st 15)]
abbrev roL (r : Ros) : List Value := [I r.g.m, I r.g.s, I r.g.r, u8 (r.st 0), u8 (r.st 1), u8 (r.st 2), u8 (r.st 3), u8 (r.st 4), u8 (r.st 5), u8 (r.st 6), u8 (r.st 7), u8 (r.st 8), u8 (r.st 9), u8 (r.st 10), u8 (r.st 11), u8 (r.st 12), u8 (r.st 13), u8 (r.st 14), u8 (r.st 15), I r.cur, .bool r.gone]
abbrev RV (r : Ros) : Value := A (roL r)
def Ros.set (r : Ros) (j s : Nat) : Ros := { r with st := fun i => if i = j then s else r.st i }
theorem stAt {st : Nat → Nat} {j : Nat} (hj : j < 16) : (stL st).toArray[(j : Int).toNat]? = some (u8 (st j)) := by
  match j, hj with
  | 0, _ | 1, _ | 2, _ | 3, _ | 4, _ | 5, _ | 6, _ | 7, _ | 8, _ | 9, _ | 10, _ | 11, _ | 12, _ | 13, _ | 14, _ | 15, _ => rfl
  | j + 16, h => omega
theorem roAt {r : Ros} {j : Nat} (hj : j < 16) : (roL r)[3 + (j : Int).toNat * 1]? = some (u8 (r.st j)) := by
  match j, hj with
  | 0, _ | 1, _ | 2, _ | 3, _ | 4, _ | 5, _ | 6, _ | 7, _ | 8, _ | 9, _ | 10, _ | 11, _ | 12, _ | 13, _ | 14, _ | 15, _ => rfl
  | j + 16, h => omega
theorem roAtN {r : Ros} {j o : Nat} (hj : j < 16) (ho : o = 3 + j) : (roL r)[o]? = some (u8 (r.st j)) := by subst ho; simpa using roAt (r := r) hj
theorem roSets {r : Ros} {j s : Nat} (hj : j < 16) : Sets (roL r) (3 + (j : Int).toNat * 1) [u8 s] (roL (r.set j s)) := by
  match j, hj with
  | 0, _ | 1, _ | 2, _ | 3, _ | 4, _ | 5, _ | 6, _ | 7, _ | 8, _ | 9, _ | 10, _ | 11, _ | 12, _ | 13, _ | 14, _ | 15, _ => exact ⟨by simp, rfl⟩
  | j + 16, h => omega
def cnt (st : Nat → Nat) (k : Nat) : Nat → Nat
  | 0 => 0
  | j + 1 => cnt st k j + if st j = k then 1 else 0
theorem cnt_le (st : Nat → Nat) (k : Nat) : ∀ j, cnt st k j ≤ j
  | 0 => Nat.le_refl _
  | j + 1 => by have := cnt_le st k j; simp only [cnt]; split <;> omega
theorem cnt_sum {st : Nat → Nat} : ∀ {j : Nat}, (∀ i, i < j → st i ≤ 2) → cnt st 0 j + cnt st 1 j + cnt st 2 j = j
  | 0, _ => rfl
  | j + 1, h => by
    have := cnt_sum (st := st) (j := j) fun i hi => h i (by omega)
    have hj := h j (by omega)
    simp only [cnt]
    have : st j = 0 ∨ st j = 1 ∨ st j = 2 := by omega
    rcases this with e | e | e <;> simp [e] <;> omega
structure RosOk (r : Ros) : Prop where
  ge : GeoOk r.g
  cur : r.cur < r.g.s
  lo : ∀ j, j < 16 → r.st j ≤ 2
  hi : ∀ j, r.g.m ≤ j → j < 16 → r.st j = 0
  one : cnt r.st 2 16 = 1 ∨ (cnt r.st 2 16 = 0 ∧ r.cur = 0)
def Ros.missing (r : Ros) : Nat := 16 - cnt r.st 0 16
def Ros.has (r : Ros) (m n : Nat) : Bool := decide (r.st m = 0) || (decide (r.st m = 2) && decide (n < r.cur))

theorem f173 {r : Ros} {k : Nat} : CtV Tryz.prog 173 [RV r, u8 k] [] (I (cnt r.st k 16)) := by
  refine w_ct Tryz.func173 rfl Tryz.ntmps173 rfl fun w B => ?_
  refine W1 fun g1 => ?_
  refine w_loop (γ := Nat) (fun j => [(1, u8 k), (5, I (cnt r.st k j)), (9, A (stL r.st)), (10, I j)]) (fun _ => []) (fun j => j ≤ 16) (fun j => 16 - j) 0 sl_ ent_ (Nat.zero_le _) fun j B hj => ?_
  have hc := cnt_le r.st k j
  refine W ?_
  refine w_if rfl (fun h => ?_) (fun h => ?_)
  · refine w_skip ?_
    refine W ?_
    refine w_y rfl rfl rfl (y_ixVal rfl rfl (UT.h (P := Tryz.prog)) (SZ.h (P := Tryz.prog)) (UT.h (P := Tryz.prog)) rfl (by omega) (by omega) (stAt (by omega))) ?_
    refine W ?_
    refine w_if rfl (fun h' => ?_) (fun h' => ?_)
    · refine W ?_
      have e : (cnt r.st k j : Int) + 1 = (cnt r.st k (j + 1) : Nat) := by simp [cnt, show r.st j = k by omega]
      rw [e]
      exact w_land rfl (w_round (j + 1) (by omega) (by omega) sl_ ent_)
    · refine W ?_
      have e : (cnt r.st k j : Nat) = (cnt r.st k (j + 1) : Nat) := by simp [cnt, show ¬ r.st j = k by omega]
      rw [e]
      exact w_land rfl (w_round (j + 1) (by omega) (by omega) sl_ ent_)
  · obtain rfl : j = 16 := by omega
    refine W ?_
    exact fin ⟨_, rfl, rfl, rfl⟩
attribute [local irreducible] cnt
theorem f119 {r : Ros} (hr : RosOk r) : CtV Tryz.prog 119 [RV r] [] (.bool true) := by
  refine w_ct Tryz.func119 rfl Tryz.ntmps119 rfl fun w B => ?_
  have hg := hr.ge
  obtain ⟨h1, h2, h3, h4, h5, h6⟩ := hr.ge
  have hc := hr.cur
  refine W1 fun g1 => ?_
  refine cv (f71 hg) ?_
  refine W ?_
  rw [decide_eq_false (show ¬ ((r.cur : Int) < 0) by omega)]
  refine W ?_
  rw [decide_eq_false (show ¬ ((r.g.s : Int) ≤ r.cur) by omega)]
  refine W ?_
  refine w_y rfl rfl rfl (y_sliceArr r.g.m 16 rfl (UT.h (P := Tryz.prog)) (SZ.h (P := Tryz.prog)) ⟨_, rfl⟩ rfl h2 (by omega)) ?_
  refine W ?_
  refine w_loop (γ := Nat) (fun j => [(1, PP g1), (27, .slice (part_ (some ⟨g1, 3, none⟩) r.g.m 1 16) (16 - r.g.m) (16 - r.g.m)), (28, I (16 - r.g.m : Nat)), (29, I j)]) (fun _ => [cl g1 (roL r) 92]) (fun j => j ≤ 16 - r.g.m) (fun j => 16 - j) 0 sl_ ent_ (Nat.zero_le _) fun j B hj => ?_
  refine W ?_
  refine w_if rfl (fun h => ?_) (fun h => ?_)
  · refine w_skip ?_
    refine W ?_
    refine w_y rfl rfl rfl (y_ixO (b := g1) (o := 3 + r.g.m) j (by rw [part_, if_neg (by omega), Nat.mul_one]; simp [Addr.add]; omega) rfl rfl (UT.h (P := Tryz.prog)) (SZ.h (P := Tryz.prog)) rfl (by omega)) ?_
    refine w_y rfl rfl rfl (y_ld1 rfl mem_ (roAtN (j := r.g.m + j) (by omega) (by omega))) ?_
    rw [hr.hi (r.g.m + j) (by omega) (by omega)]
    refine W ?_
    exact w_land rfl (w_round (j + 1) (by omega) (by omega) sl_ ent_)
  · refine W ?_
    refine cv (f173 (k := 2)) ?_
    refine W ?_
    refine w_draw 22 (by decide +kernel) ?_
    refine W ?_
    refine cq (f173 (k := 0)) ?_
    refine W ?_
    refine cq (f173 (k := 1)) ?_
    have hs := cnt_sum (st := r.st) (j := 16) hr.lo
    have b0 := cnt_le r.st 0 16
    have b1 := cnt_le r.st 1 16
    have b2 := cnt_le r.st 2 16
    refine W ?_
    rw [decide_eq_true (show (cnt r.st 0 16 : Int) + (cnt r.st 1 16 : Nat) + (cnt r.st 2 16 : Nat) = 16 by omega)]
    refine W ?_
    rcases hr.one with e | ⟨e, e'⟩
    · rw [decide_eq_true (show (cnt r.st 2 16 : Int) = 1 by omega)]
      refine W ?_
      exact fin ⟨_, rfl, rfl, rfl⟩
    · rw [decide_eq_false (show ¬ (cnt r.st 2 16 : Int) = 1 by omega)]
      refine W ?_
      rw [decide_eq_true (show (cnt r.st 2 16 : Int) = 0 by omega)]
      refine W ?_
      rw [decide_eq_true (show (r.cur : Int) = 0 by omega)]
      refine W ?_
      exact fin ⟨_, rfl, rfl, rfl⟩
theorem f197 {r : Ros} (hr : RosOk r) {m : Nat} : CtV Tryz.prog 197 [RV r, I m] [] (.bool (decide (m < r.g.m))) := by
  refine w_ct Tryz.func197 rfl Tryz.ntmps197 rfl fun w B => ?_
  refine W1 fun g1 => ?_
  refine cv (f119 hr) ?_
  refine W ?_
  rw [decide_eq_true (show (0 : Int) ≤ m by omega)]
  refine W ?_
  exact fin (v := .bool (decide ((m : Int) < r.g.m))) ⟨_, rfl, by simp, rfl⟩
theorem f197' {r : Ros} (hr : RosOk r) {m : Nat} (hm : m < r.g.m) : CtV Tryz.prog 197 [RV r, I m] [] (.bool true) := by
  have := f197 hr (m := m); rwa [decide_eq_true hm] at this
theorem f247 {r : Ros} (hr : RosOk r) {m n : Nat} (hm : m < r.g.m) (hn : n < r.g.s) : CtV Tryz.prog 247 [RV r, I m, I n] [] (.bool (r.has m n)) := by
  refine w_ct Tryz.func247 rfl Tryz.ntmps247 rfl fun w B => ?_
  have h2 := hr.ge.m16
  refine W1 fun g1 => ?_
  refine cv (f197' hr hm) ?_
  refine W ?_
  rw [decide_eq_false (show ¬ ((n : Int) < 0) by omega)]
  refine W ?_
  rw [decide_eq_false (show ¬ ((r.g.s : Int) ≤ n) by omega)]
  refine W ?_
  refine w_y rfl rfl rfl (y_ld1 rfl mem_ (roAt (j := m) (by omega))) ?_
  refine W ?_
  refine w_if rfl (fun h => ?_) (fun h => ?_)
  · refine W ?_
    exact fin (v := .bool true) ⟨_, rfl, by simp [Ros.has, show r.st m = 0 by omega], rfl⟩
  · refine W ?_
    refine w_if rfl (fun h' => ?_) (fun h' => ?_)
    · refine W ?_
      exact fin (v := .bool (decide ((n : Int) < r.cur))) ⟨_, rfl, by simp [Ros.has, show r.st m = 2 by omega], rfl⟩
    · refine W ?_
      exact fin (v := .bool false) ⟨_, rfl, by simp [Ros.has, show ¬ r.st m = 2 by omega, show ¬ r.st m = 0 by omega], rfl⟩
theorem f110 {r : Ros} (hr : RosOk r) : CtV Tryz.prog 110 [RV r] [] (I r.missing) := by
  refine w_ct Tryz.func110 rfl Tryz.ntmps110 rfl fun w B => ?_
  refine W1 fun g1 => ?_
  refine cv (f119 hr) ?_
  refine W ?_
  have b0 := cnt_le r.st 0 16
  refine cv (f173 (k := 0)) ?_
  refine W ?_
  exact fin (v := .int .i64 (16 - (cnt r.st 0 16 : Nat))) ⟨_, rfl, by unfold Ros.missing; rw [show ((16 - cnt r.st 0 16 : Nat) : Int) = 16 - (cnt r.st 0 16 : Nat) by omega], rfl⟩
/-- the member that heals -/
def Ros.heals (r : Ros) (v : Value) : Prop := ∃ (m : Nat) (b : Bool), v = T [I m, .bool b] ∧ b = decide (cnt r.st 2 16 ≠ 0) ∧ (b = true → m < r.g.m ∧ r.st m = 2)
theorem cnt_pos {st : Nat → Nat} {k m : Nat} : ∀ {j : Nat}, m < j → st m = k → 0 < cnt st k j
  | 0, h, _ => by omega
  | j + 1, h, e => by
    simp only [cnt]
    by_cases hm : m = j
    · subst hm; simp [e]
    · have := cnt_pos (st := st) (k := k) (m := m) (j := j) (by omega) e; omega
theorem f107 {r : Ros} (hr : RosOk r) : Ct Tryz.prog 107 [RV r] [] (fun v L => r.heals v ∧ L = []) := by
  refine w_ct Tryz.func107 rfl Tryz.ntmps107 rfl fun w B => ?_
  refine W1 fun g1 => ?_
  refine cv (f119 hr) ?_
  refine W ?_
  refine w_loop (γ := Nat) (fun j => [(10, A (stL r.st)), (11, I j)]) (fun _ => []) (fun j => j ≤ 16 ∧ cnt r.st 2 j = 0) (fun j => 16 - j) 0 sl_ ent_ ⟨Nat.zero_le _, by simp [cnt]⟩ fun j B ⟨hj, hc⟩ => ?_
  refine W ?_
  refine w_if rfl (fun h => ?_) (fun h => ?_)
  · refine w_skip ?_
    refine W ?_
    refine w_y rfl rfl rfl (y_ixVal rfl rfl (UT.h (P := Tryz.prog)) (SZ.h (P := Tryz.prog)) (UT.h (P := Tryz.prog)) rfl (by omega) (by omega) (stAt (by omega))) ?_
    refine W ?_
    refine w_if rfl (fun h' => ?_) (fun h' => ?_)
    · refine W ?_
      have e2 : r.st j = 2 := by omega
      refine fin ⟨_, rfl, ⟨j, true, rfl, ?_, fun _ => ⟨?_, e2⟩⟩, rfl⟩
      · have := cnt_pos (j := 16) (by omega) e2; simp; omega
      by_cases hm : j < r.g.m
      · exact hm
      · have := hr.hi j (by omega) (by omega); omega
    · refine W ?_
      exact w_land rfl (w_round (j + 1) ⟨by omega, by simp [cnt, hc, show ¬ r.st j = 2 by omega]⟩ (by omega) sl_ ent_)
  · obtain rfl : j = 16 := by omega
    refine W ?_
    exact fin ⟨_, rfl, ⟨0, false, rfl, by simp [hc], fun h => by cases h⟩, rfl⟩
def Ros.state (r : Ros) : Nat := if 1 < r.missing ∨ (r.missing = 1 ∧ r.gone = true) then 5 else if r.gone then 4 else if cnt r.st 2 16 ≠ 0 then 3 else if r.missing = 1 then 2 else 1
theorem f70 {r : Ros} (hr : RosOk r) : CtV Tryz.prog 70 [RV r] [] (I r.state) := by
  refine w_ct Tryz.func70 rfl Tryz.ntmps70 rfl fun w B => ?_
  refine W1 fun g1 => ?_
  refine cl' (f107 hr) ?_
  rintro _ _ ⟨⟨m, b, rfl, hb, hm⟩, rfl⟩
  refine W ?_
  refine cv (f110 hr) ?_
  have hms : r.missing ≤ 16 := by unfold Ros.missing; omega
  refine W ?_
  refine cv (f119 hr) ?_
  refine W ?_
  unfold Ros.state
  have hb' : (cnt r.st 2 16 ≠ 0) ↔ b = true := by simp [hb]
  obtain ⟨g, st, cur, gone⟩ := r
  simp only at hb' hms ⊢
  by_cases h1 : 1 < (Ros.missing ⟨g, st, cur, gone⟩ : Int) <;> by_cases h2 : (Ros.missing ⟨g, st, cur, gone⟩ : Int) = 1
  · omega
  · rw [decide_eq_true h1, if_pos (.inl (by omega))]
    refine W ?_
    exact fin ⟨_, rfl, rfl, rfl⟩
  · rw [decide_eq_false h1]
    refine W ?_
    rw [decide_eq_true h2]
    refine W ?_
    cases gone
    · rw [if_neg (by simp; omega), if_neg (by simp)]
      cases b
      · rw [if_neg (by simp [hb']), if_pos (by omega)]
        refine W ?_
        rw [decide_eq_true h2]
        refine W ?_
        exact fin ⟨_, rfl, rfl, rfl⟩
      · rw [if_pos (by simp [hb'])]
        refine W ?_
        exact fin ⟨_, rfl, rfl, rfl⟩
    · rw [if_pos (by simp; omega)]
      refine W ?_
      exact fin ⟨_, rfl, rfl, rfl⟩
  · rw [decide_eq_false h1]
    refine W ?_
    rw [decide_eq_false h2]
    refine W ?_
    cases gone
    · rw [if_neg (by simp; omega), if_neg (by simp)]
      cases b
      · rw [if_neg (by simp [hb']), if_neg (by omega)]
        refine W ?_
        rw [decide_eq_false h2]
        refine W ?_
        exact fin ⟨_, rfl, rfl, rfl⟩
      · rw [if_pos (by simp [hb'])]
        refine W ?_
        exact fin ⟨_, rfl, rfl, rfl⟩
    · rw [if_neg (by simp; omega), if_pos rfl]
      refine W ?_
      exact fin ⟨_, rfl, rfl, rfl⟩
def Ros.next (r : Ros) (m : Nat) : Ros := if r.cur + 1 = r.g.s then { r.set m 0 with cur := 0 } else { r with cur := r.cur + 1 }
theorem f215 {r : Ros} (hr : RosOk r) : Ct Tryz.prog 215 [RV r] [] (fun v L => L = [] ∧ ((cnt r.st 2 16 = 0 ∧ ∃ x, v = T [x, I 17]) ∨ (cnt r.st 2 16 ≠ 0 ∧ ∃ m, m < r.g.m ∧ r.st m = 2 ∧ v = T [RV (r.next m), I 0]))) := by
  refine w_ct Tryz.func215 rfl Tryz.ntmps215 rfl fun w B => ?_
  have h2 := hr.ge.m16
  have h3 := hr.cur
  have h4 := hr.ge.s64
  refine W2 fun g1 g2 => ?_
  refine cl' (f107 hr) ?_
  rintro _ _ ⟨⟨m, b, rfl, hb, hm⟩, rfl⟩
  refine W ?_
  refine cv (f119 hr) ?_
  refine W ?_
  cases b
  · refine W ?_
    exact fin ⟨_, rfl, ⟨rfl, .inl ⟨by simpa using hb, _, rfl⟩⟩⟩
  · obtain ⟨hm, hm2⟩ := hm rfl
    refine W ?_
    unfold Ros.next
    refine w_if rfl (fun h => ?_) (fun h => ?_)
    · refine W ?_
      refine w_st1 (v := u8 0) rfl rfl inferInstance upd_ (roSets (r := { r with cur := r.cur + 1 }) (j := m) (s := 0) (by omega)) ?_
      refine W ?_
      exact fin (v := T [RV { r.set m 0 with cur := 0 }, I 0]) ⟨_, rfl, ⟨rfl, .inr ⟨by simpa using hb, m, hm, hm2, by rw [if_pos (by omega)]⟩⟩⟩
    · refine W ?_
      exact fin (v := T [RV { r with cur := r.cur + 1 }, I 0]) ⟨_, rfl, ⟨rfl, .inr ⟨by simpa using hb, m, hm, hm2, by rw [if_neg (by omega)]⟩⟩⟩
theorem f140 {r : Ros} (hr : RosOk r) {m : Nat} (hm : m < r.g.m) : CtV Tryz.prog 140 [RV r, I m] [] (T [RV ({ r.set m 1 with cur := if r.st m = 2 then 0 else r.cur }), .bool (decide (r.st m ≠ 1))]) := by
  refine w_ct Tryz.func140 rfl Tryz.ntmps140 rfl fun w B => ?_
  have h2 := hr.ge.m16
  refine W2 fun g1 g2 => ?_
  refine cv (f197' hr hm) ?_
  refine W ?_
  refine w_y rfl rfl rfl (y_ld1 rfl mem_ (roAt (j := m) (by omega))) ?_
  refine W ?_
  refine w_if rfl (fun h => ?_) (fun h => ?_)
  · refine W ?_
    refine w_st1 (v := u8 1) rfl rfl inferInstance upd_ (roSets (r := { r with cur := 0 }) (j := m) (s := 1) (by omega)) ?_
    refine W ?_
    have e : r.st m = 2 := by omega
    exact fin (v := T [RV ({ r with cur := 0 }.set m 1), .bool (decide ((r.st m : Int) ≠ 1))]) ⟨_, rfl, by rw [if_pos e, e]; rfl, rfl⟩
  · refine W ?_
    refine w_st1 (v := u8 1) rfl rfl inferInstance upd_ (roSets (j := m) (s := 1) (by omega)) ?_
    refine W ?_
    have e : ¬ r.st m = 2 := by omega
    have e' : decide ((r.st m : Int) ≠ 1) = decide (r.st m ≠ 1) := by simp [show ((r.st m : Int) = 1) ↔ r.st m = 1 by omega]
    exact fin (v := T [RV (r.set m 1), .bool (decide ((r.st m : Int) ≠ 1))]) ⟨_, rfl, by rw [e', if_neg e]; rfl, rfl⟩
theorem f217 {r : Ros} (hr : RosOk r) {m : Nat} (hm : m < r.g.m) : Ct Tryz.prog 217 [RV r, I m] [] (fun v L => L = [] ∧ ((r.st m = 1 ∧ r.missing ≤ 1 ∧ r.gone = false ∧ v = T [RV { r.set m 2 with cur := 0 }, I 0]) ∨ (¬ (r.st m = 1 ∧ r.missing ≤ 1 ∧ r.gone = false) ∧ ∃ x, v = T [x, I 17]))) := by
  refine w_ct Tryz.func217 rfl Tryz.ntmps217 rfl fun w B => ?_
  have h2 := hr.ge.m16
  refine W2 fun g1 g2 => ?_
  refine cv (f197' hr hm) ?_
  refine W ?_
  refine w_y rfl rfl rfl (y_ld1 rfl mem_ (roAt (j := m) (by omega))) ?_
  by_cases h : (r.st m : Int) = 1
  · refine W ?_
    rw [decide_eq_false (show ¬ ((r.st m : Int) ≠ 1) by omega)]
    refine W ?_
    refine cv (f110 hr) ?_
    have hms : r.missing ≤ 16 := by unfold Ros.missing; omega
    refine W ?_
    by_cases h' : 1 < (r.missing : Int)
    · rw [decide_eq_true h']
      refine W ?_
      exact fin ⟨_, rfl, rfl, .inr ⟨by omega, _, rfl⟩⟩
    · rw [decide_eq_false h']
      refine W ?_
      obtain ⟨g, st, cur, gone⟩ := r
      simp only at *
      cases gone
      · refine W ?_
        refine w_st1 (v := u8 2) rfl rfl inferInstance upd_ (roSets (j := m) (s := 2) (by omega)) ?_
        refine W ?_
        exact fin ⟨_, rfl, rfl, .inl ⟨by omega, by omega, rfl, rfl⟩⟩
      · refine W ?_
        exact fin ⟨_, rfl, rfl, .inr ⟨by simp, _, rfl⟩⟩
  · refine W ?_
    rw [decide_eq_true (show ((r.st m : Int) ≠ 1) by omega)]
    refine W ?_
    exact fin ⟨_, rfl, rfl, .inr ⟨by omega, _, rfl⟩⟩
theorem f218 {r : Ros} (hr : RosOk r) {gone : Bool} : CtV Tryz.prog 218 [RV r, .bool gone] [] (T [RV { r with gone := gone }, I 0]) := by
  refine w_ct Tryz.func218 rfl Tryz.ntmps218 rfl fun w B => ?_
  refine W2 fun g1 g2 => ?_
  refine cv (f119 hr) ?_
  refine W ?_
  exact fin ⟨_, rfl, rfl, rfl⟩
theorem f86 {g : Geo} (hg : GeoOk g) : CtV Tryz.prog 86 [GV g] [] (T [RV ⟨g, fun _ => 0, 0, false⟩, I 0]) := by
  refine w_ct Tryz.func86 rfl Tryz.ntmps86 rfl fun w B => ?_
  refine W2 fun g1 g2 => ?_
  refine cv (f71 hg) ?_
  refine W ?_
  exact fin ⟨_, rfl, rfl, rfl⟩
end Go.Proofs.YtnilejkfbcnkkaaGreatDoor.V
end
section
set_option maxRecDepth 100000
namespace Go.Proofs.YtnilejkfbcnkkaaGreatDoor.V
open Go Go.RowKit
attribute [local irreducible] Yields cl blk pur rowc sv exC fo

def xorb (x y : Blk) : Blk := Vector.ofFn fun i => x[i] ^^^ y[i]
def foldb (l : List Blk) : Blk := l.foldl xorb blk0
theorem xorb_get (x y : Blk) (i : Nat) (h : i < 64) : (xorb x y)[i] = x[i] ^^^ y[i] := by simp [xorb]
theorem bl_get {x : Blk} {j o : Nat} (hj : j < 64) (ho : o = j) : (bl x)[o]? = some (.int .u8 ((x[j]).toNat : Int)) := by
  subst ho
  have := bv_get x o hj
  rw [← Array.getElem?_toList] at this; exact this
theorem bl_sets {x : Blk} {j o : Nat} (hj : j < 64) (ho : o = j) (b : UInt8) : Sets (bl x) o [.int .u8 (b.toNat : Int)] (bl (x.set j b hj)) := by
  subst ho
  have e := bv_set x o hj b
  have hl := bl_len x
  refine ⟨by rw [hl]; simp; omega, ?_⟩
  have : bl (x.set o b hj) = (bl x).set o (.int .u8 (b.toNat : Int)) := by
    unfold bl; rw [← e, Array.toList_setIfInBounds]
  rw [this, List.set_eq_take_append_cons_drop, if_pos (by rw [hl]; exact hj)]
  simp
theorem bitv_xorB (p q : UInt8) : bitv .xor .u8 (p.toNat : Int) (q.toNat : Int) = ((p ^^^ q).toNat : Int) := by
  show IntKind.u8.wrap ((BitVec.ofInt 8 (p.toNat : Int) ^^^ BitVec.ofInt 8 (q.toNat : Int)).toNat : Int) = ((p ^^^ q).toNat : Int)
  have h1 : BitVec.ofInt 8 (p.toNat : Int) = p.toBitVec := by apply BitVec.eq_of_toNat_eq; simp
  have h2 : BitVec.ofInt 8 (q.toNat : Int) = q.toBitVec := by apply BitVec.eq_of_toNat_eq; simp
  rw [h1, h2]
  have h3 : (p.toBitVec ^^^ q.toBitVec) = (p ^^^ q).toBitVec := rfl
  rw [h3]
  have := (p ^^^ q).toNat_lt
  have h4 : (p ^^^ q).toBitVec.toNat = (p ^^^ q).toNat := rfl
  rw [h4, wi_u8 (by omega) (by omega)]
/-- the first j bytes are laid against each other -/
def xorTo (x y : Blk) (j : Nat) : Blk := Vector.ofFn fun i : Fin 64 => if i.1 < j then x[i] ^^^ y[i] else x[i]
theorem xorTo_zero (x y : Blk) : xorTo x y 0 = x := by ext i hi; simp [xorTo]
theorem xorTo_all (x y : Blk) : xorTo x y 64 = xorb x y := by ext i hi; simp [xorTo, xorb, hi]
theorem xorTo_succ (x y : Blk) {j : Nat} (hj : j < 64) : (xorTo x y j).set j ((xorTo x y j)[j] ^^^ y[j]) hj = xorTo x y (j + 1) := by
  ext i hi
  rw [Vector.getElem_set]
  by_cases e : j = i
  · subst e; simp [xorTo]
  · have e' : i < j + 1 ↔ i < j := by omega
    simp [e, e', xorTo]
theorem f213 {x y : Blk} : CtV Tryz.prog 213 [BV x, BV y] [] (BV (xorb x y)) := by
  refine w_ct Tryz.func213 rfl Tryz.ntmps213 rfl fun w B => ?_
  refine W3 fun g1 g2 g3 => ?_
  refine w_loop (γ := Nat) (fun j => [(2, PP g1), (4, PP g3), (7, BV y), (8, I j)]) (fun j => [cl g1 (bl (xorTo x y j)) 51, cl g3 (bl blk0) 51]) (fun j => j ≤ 64) (fun j => 64 - j) 0 sl_ ?_ (Nat.zero_le _) fun j B hj => ?_
  · show Ent _ [cl g1 (bl (xorTo x y 0)) 51, cl g3 (bl blk0) 51]
    rw [xorTo_zero]; exact ent_
  refine W ?_
  refine w_if rfl (fun h => ?_) (fun h => ?_)
  · have hj' : j < 64 := by omega
    refine w_skip ?_
    refine W ?_
    refine w_y rfl rfl rfl (y_ixVal rfl rfl (UT.h (P := Tryz.prog)) (SZ.h (P := Tryz.prog)) (UT.h (P := Tryz.prog)) rfl (by omega) (by omega) (bv_get y j hj')) ?_
    refine W ?_
    refine w_y rfl rfl rfl (y_ld1 rfl mem_ (bl_get hj' (by simp))) ?_
    refine W ?_
    rw [bitv_xorB]
    refine w_st1 (v := .int .u8 (((xorTo x y j)[j] ^^^ y[j]).toNat : Int)) rfl rfl inferInstance upd_ (bl_sets hj' (by simp) _) ?_
    rw [xorTo_succ]
    refine W ?_
    exact w_land rfl (w_round (j + 1) (by omega) (by omega) sl_ ent_)
  · obtain rfl : j = 64 := by omega
    rw [xorTo_all]
    refine W ?_
    exact fin ⟨_, rfl, rfl, rfl⟩
theorem f169 {x : Blk} : CtV Tryz.prog 169 [BV x] [] (.bool (decide (x = blk0))) := by
  refine w_ct Tryz.func169 rfl Tryz.ntmps169 rfl fun w B => ?_
  refine W1 fun g1 => ?_
  refine w_y rfl rfl rfl (y_eqlV (p := x) (q := blk0) (by constructor <;> rfl) rfl rfl) ?_
  refine W ?_
  exact fin ⟨_, rfl, rfl, rfl⟩
theorem f170 {a : Option Addr} {c : Nat} {l : List Blk} : CtV Tryz.prog 170 [.slice a l.length c] [sv eBlk 51 l a c] (BV (foldb l)) := by
  refine w_ct Tryz.func170 rfl Tryz.ntmps170 rfl fun w B => ?_
  refine W1 fun g1 => ?_
  refine w_loop (γ := Nat) (fun j => [(2, PP g1), (5, .slice a l.length c), (6, I l.length), (7, I j)]) (fun j => [cl g1 (bl (foldb (l.take j))) 51, sv eBlk 51 l a c]) (fun j => j ≤ l.length) (fun j => l.length - j) 0 sl_ ent_ (Nat.zero_le _) fun j B hj => ?_
  refine W ?_
  refine w_if rfl (fun h => ?_) (fun h => ?_)
  · refine g_svp rfl sel_ (by omega) fun g hg => ?_
    subst hg
    refine g_len rfl mem_ fun hl1 hl2 => ?_
    simp only [maxLen] at hl2
    refine W1 fun g4 => ?_
    refine cv f213 ?_
    refine W ?_
    refine w_land rfl (w_round (j + 1) (by omega) (by omega) sl_ ?_)
    have e : foldb (l.take (j + 1)) = xorb (foldb (l.take j)) l[j] := by unfold foldb; rw [List.take_succ_eq_append_getElem (by omega), List.foldl_append]; rfl
    rw [e]
    exact Ent.sel sel_ (ent_sv ent_)
  · obtain rfl : j = l.length := by omega
    rw [List.take_length]
    refine W ?_
    exact fin ⟨_, rfl, rfl, rfl⟩
end Go.Proofs.YtnilejkfbcnkkaaGreatDoor.V
end
section
set_option maxRecDepth 100000
namespace Go.Proofs.YtnilejkfbcnkkaaGreatDoor.V
open Go Go.RowKit
attribute [local irreducible] Yields cl blk pur rowc sv exC fo

abbrev SL (g n c : Nat) : Value := .slice (some ⟨g, 0, none⟩) n c
theorem f205 {n : Nat} (h1 : 2 ≤ n) (h2 : n ≤ 15) : CtV Tryz.prog 205 [I n] [] (.bool true) := by
  refine w_ct Tryz.func205 rfl Tryz.ntmps205 rfl fun w B => ?_
  refine W ?_
  rw [decide_eq_true (show (2 : Int) ≤ n by omega)]
  refine W ?_
  exact fin (v := .bool (decide ((n : Int) ≤ 15))) ⟨_, rfl, by rw [decide_eq_true (show (n : Int) ≤ 15 by omega)], rfl⟩
theorem cntT_succ (l : List Bool) {j : Nat} (hj : j < l.length) : (l.take (j + 1)).count true = (l.take j).count true + if l[j] then 1 else 0 := by
  rw [List.take_succ_eq_append_getElem hj, List.count_append]
  cases l[j] <;> simp
theorem f244 {wr : List Bool} {g c : Nat} (hn : wr.length ≤ 15) : CtV Tryz.prog 244 [SL g wr.length c] [rowc eBool 4 wr g c] (I (wr.count true)) := by
  refine w_ct Tryz.func244 rfl Tryz.ntmps244 rfl fun w B => ?_
  refine W ?_
  refine w_loop (γ := Nat) (fun j => [(3, I ((wr.take j).count true)), (6, SL g wr.length c), (7, I wr.length), (8, I j)]) (fun j => [rowc eBool 4 wr g c]) (fun j => j ≤ wr.length) (fun j => wr.length - j) 0 sl_ ent_ (Nat.zero_le _) fun j B hj => ?_
  have hc : (wr.take j).count true ≤ 15 := by have := List.count_le_length (a := true) (l := wr.take j); simp at this; omega
  refine W ?_
  refine w_if rfl (fun h => ?_) (fun h => ?_)
  · have e := cntT_succ wr (j := j) (by omega)
    refine W ?_
    cases hb : wr[j]
    · refine W ?_
      rw [hb] at e
      rw [← show (wr.take (j + 1)).count true = (wr.take j).count true by simpa using e]
      exact w_land rfl (w_round (j + 1) (by omega) (by omega) sl_ ent_)
    · refine W ?_
      rw [hb] at e
      rw [show ((wr.take j).count true : Int) + 1 = ((wr.take (j + 1)).count true : Nat) by simp at e; omega]
      exact w_land rfl (w_round (j + 1) (by omega) (by omega) sl_ ent_)
  · obtain rfl : j = wr.length := by omega
    rw [List.take_length]
    refine W ?_
    exact fin ⟨_, rfl, rfl, rfl⟩
/-- a slice of some numbers, and a word -/
def someL (v : Value) : Prop := ∃ (a : Option Addr) (n c : Nat) (b : Bool), n ≤ 100 ∧ v = T [.slice a n c, .bool b]
section
variable {wr kn : List Bool} {gw cw gk ck : Nat} {lost : Int}
theorem f245 (hn : wr.length ≤ 15) (hk : kn.length = wr.length) : Ct Tryz.prog 245 [A [SL gw wr.length cw, SL gk kn.length ck, .int .i64 lost]] [rowc eBool 4 wr gw cw, rowc eBool 4 kn gk ck]
    (fun v L => someL v ∧ L = [rowc eBool 4 wr gw cw, rowc eBool 4 kn gk ck]) := by
  refine w_ct Tryz.func245 rfl Tryz.ntmps245 rfl fun w B => ?_
  refine W1 fun g1 => ?_
  refine w_loop (γ := Nat × Option Addr × Nat × List Nat) (fun ⟨j, a, c, l⟩ => [(1, PP g1), (4, .slice a l.length c), (8, SL gw wr.length cw), (9, I wr.length), (10, I j)]) (fun ⟨j, a, c, l⟩ => [cl g1 [SL gw wr.length cw, SL gk kn.length ck, .int .i64 lost] 297, sv eNat 3 l a c, rowc eBool 4 wr gw cw, rowc eBool 4 kn gk ck])
    (fun ⟨j, a, c, l⟩ => j ≤ wr.length ∧ l.length ≤ j) (fun x => wr.length - x.1) (0, none, 0, []) sl_ (Ent.sel sel_ (ent_svn ent_)) ⟨Nat.zero_le _, Nat.zero_le _⟩ fun ⟨j, a, c, l⟩ B ⟨hj, hl⟩ => ?_
  dsimp only
  refine W ?_
  refine w_if rfl (fun h => ?_) (fun h => ?_)
  · refine W ?_
    cases hw : wr[j]
    · refine W ?_
      cases hkj : kn[j]
      · refine W ?_
        refine w_bs1 eNat j rfl rfl rfl (by decide) fun gt => ?_
        refine W ?_
        refine w_ap eNat sel_ (rd_row mem_) (by simp; omega) (by simp; omega) fun a' c' => ?_
        refine W ?_
        refine w_if rfl (fun h' => ?_) (fun h' => ?_)
        · refine W ?_
          refine fin ⟨_, rfl, ⟨_, _, _, _, ?_, rfl⟩, rfl⟩
          omega
        · refine W ?_
          exact w_land rfl (w_round (j + 1, a', c', l ++ [j]) ⟨by omega, by simp; omega⟩ (by show wr.length - (j + 1) < wr.length - j; omega) sl_ ent_)
      · refine W ?_
        exact w_land rfl (w_round (j + 1, a, c, l) ⟨by omega, by show l.length ≤ j + 1; omega⟩ (by show wr.length - (j + 1) < wr.length - j; omega) sl_ ent_)
    · refine W ?_
      exact w_land rfl (w_round (j + 1, a, c, l) ⟨by omega, by show l.length ≤ j + 1; omega⟩ (by show wr.length - (j + 1) < wr.length - j; omega) sl_ ent_)
  · refine W ?_
    refine fin ⟨_, rfl, ⟨_, _, _, _, ?_, rfl⟩, rfl⟩
    omega
theorem f246 {par : Bool} (hn : wr.length ≤ 15) (hk : kn.length = wr.length) : Ct Tryz.prog 246 [A [SL gw wr.length cw, SL gk kn.length ck, .int .i64 lost], .bool par] [rowc eBool 4 wr gw cw, rowc eBool 4 kn gk ck]
    (fun v L => someL v ∧ L = [rowc eBool 4 wr gw cw, rowc eBool 4 kn gk ck]) := by
  refine w_ct Tryz.func246 rfl Tryz.ntmps246 rfl fun w B => ?_
  refine W1 fun g1 => ?_
  refine w_loop (γ := Nat × Option Addr × Nat × List Nat) (fun ⟨j, a, c, l⟩ => [(1, .bool par), (2, PP g1), (6, .slice a l.length c), (10, SL gw wr.length cw), (11, I wr.length), (12, I j)]) (fun ⟨j, a, c, l⟩ => [cl g1 [SL gw wr.length cw, SL gk kn.length ck, .int .i64 lost] 297, sv eNat 3 l a c, rowc eBool 4 wr gw cw, rowc eBool 4 kn gk ck])
    (fun ⟨j, a, c, l⟩ => j ≤ wr.length ∧ l.length ≤ j) (fun x => wr.length - x.1) (0, none, 0, []) sl_ (Ent.sel sel_ (ent_svn ent_)) ⟨Nat.zero_le _, Nat.zero_le _⟩ fun ⟨j, a, c, l⟩ B ⟨hj, hl⟩ => ?_
  dsimp only
  refine W ?_
  refine w_if rfl (fun h => ?_) (fun h => ?_)
  · refine W ?_
    cases hw : wr[j]
    · refine W ?_
      exact w_land rfl (w_round (j + 1, a, c, l) ⟨by omega, by show l.length ≤ j + 1; omega⟩ (by show wr.length - (j + 1) < wr.length - j; omega) sl_ ent_)
    · refine W ?_
      cases hkj : kn[j]
      · refine W ?_
        refine w_bs1 eNat j rfl rfl rfl (by decide) fun gt => ?_
        refine W ?_
        refine w_ap eNat sel_ (rd_row mem_) (by simp; omega) (by simp; omega) fun a' c' => ?_
        refine W ?_
        refine w_if rfl (fun h' => ?_) (fun h' => ?_)
        · refine W ?_
          refine fin ⟨_, rfl, ⟨_, _, _, _, ?_, rfl⟩, rfl⟩
          omega
        · refine W ?_
          exact w_land rfl (w_round (j + 1, a', c', l ++ [j]) ⟨by omega, by simp; omega⟩ (by show wr.length - (j + 1) < wr.length - j; omega) sl_ ent_)
      · refine W ?_
        exact w_land rfl (w_round (j + 1, a, c, l) ⟨by omega, by show l.length ≤ j + 1; omega⟩ (by show wr.length - (j + 1) < wr.length - j; omega) sl_ ent_)
  · refine W ?_
    cases par
    · refine W ?_
      refine w_bs1 eNat wr.length rfl rfl rfl (by decide) fun gt => ?_
      refine W ?_
      refine w_ap eNat sel_ (rd_row mem_) (by simp; omega) (by simp; omega) fun a' c' => ?_
      refine W ?_
      refine fin ⟨_, rfl, ⟨_, _, _, _, ?_, rfl⟩, rfl⟩
      simp; omega
    · refine W ?_
      refine fin ⟨_, rfl, ⟨_, _, _, _, ?_, rfl⟩, rfl⟩
      omega
/-- which way -/
def wayOf (wr : List Bool) (lost : Int) (way : Nat) : Prop :=
  (lost = wr.length ∧ way = 1) ∨ (lost ≠ wr.length ∧ wr.count true = wr.length ∧ way = 2) ∨ (lost ≠ wr.length ∧ wr.count true ≠ wr.length ∧ (way = 3 ∨ way = 4))
theorem f203 {par : Bool} (h2 : 2 ≤ wr.length) (hn : wr.length ≤ 15) (hk : kn.length = wr.length) (hl : -1 ≤ lost) (hl' : lost ≤ wr.length) (hw : 0 < wr.count true) :
    Ct Tryz.prog 203 [SL gw wr.length cw, SL gk kn.length ck, .bool par, .int .i64 lost] [rowc eBool 4 wr gw cw, rowc eBool 4 kn gk ck]
    (fun v L => (∃ way a n c, wayOf wr lost way ∧ v = T [A [u8 way, .slice a n c], I 0]) ∧ L = [rowc eBool 4 wr gw cw, rowc eBool 4 kn gk ck]) := by
  refine w_ct Tryz.func203 rfl Tryz.ntmps203 rfl fun w B => ?_
  refine W1 fun g1 => ?_
  refine cv (f205 h2 hn) ?_
  refine W ?_
  rw [decide_eq_false (show ¬ ((kn.length : Int) ≠ wr.length) by omega)]
  refine W ?_
  rw [decide_eq_false (show ¬ (lost < -1) by omega)]
  refine W ?_
  rw [decide_eq_false (show ¬ ((wr.length : Int) < lost) by omega)]
  refine W ?_
  refine cv (f244 hn) ?_
  refine W ?_
  rw [decide_eq_false (show ¬ ((wr.count true : Int) = 0) by omega)]
  refine W ?_
  refine w_if rfl (fun h => ?_) (fun h => ?_)
  · refine W ?_
    exact fin ⟨_, rfl, ⟨1, none, 0, 0, .inl ⟨h, rfl⟩, rfl⟩, rfl⟩
  refine W ?_
  refine cv (f244 hn) ?_
  refine W ?_
  refine w_if rfl (fun h' => ?_) (fun h' => ?_)
  · refine W ?_
    exact fin ⟨_, rfl, ⟨2, none, 0, 0, .inr (.inl ⟨h, by omega, rfl⟩), rfl⟩, rfl⟩
  refine W1 fun g2 => ?_
  refine cl' (f245 hn hk) ?_
  rintro _ _ ⟨⟨a1, n1, c1, b1, hn1, rfl⟩, rfl⟩
  refine W ?_
  refine cl' (f246 hn hk) ?_
  rintro _ _ ⟨⟨a2, n2, c2, b2, hn2, rfl⟩, rfl⟩
  refine W ?_
  cases b1
  · refine W ?_
    exact fin ⟨_, rfl, ⟨4, a2, n2, c2, .inr (.inr ⟨h, by omega, .inr rfl⟩), rfl⟩, rfl⟩
  · refine W ?_
    cases b2
    · refine W ?_
      exact fin ⟨_, rfl, ⟨3, a1, n1, c1, .inr (.inr ⟨h, by omega, .inl rfl⟩), rfl⟩, rfl⟩
    · refine W ?_
      by_cases hle : (n1 : Int) ≤ n2
      · rw [decide_eq_true hle]
        refine W ?_
        exact fin ⟨_, rfl, ⟨3, a1, n1, c1, .inr (.inr ⟨h, by omega, .inl rfl⟩), rfl⟩, rfl⟩
      · rw [decide_eq_false hle]
        refine W ?_
        exact fin ⟨_, rfl, ⟨4, a2, n2, c2, .inr (.inr ⟨h, by omega, .inr rfl⟩), rfl⟩, rfl⟩
end
section
variable {n : Fp} {w0 : World} {S : Nat → Prop} {X : Post} {R : Regs} {L : Hp} {kd : Kd} {α : Type}
variable {ks : List Fr} {ops : Array Oper} {rest : List Oper} {ty : TypeId} {pos : String} {after : Array Go.Edge}
theorem w_bs2 (E : Enc α) (a b : α) {t bytes sz d e : Nat} {v u : Value} {y z : Operand} [T : SLT t e sz bytes] (hv : ev R y = v) (hu : ev R z = u) (hc : v.cells.toList = E.enc a) (hc' : u.cells.toList = E.enc b) (he : sz = E.sz) (hsm : 2 * E.sz ≤ 16777216)
    (h : ∀ g, Gl n w0 S X (.ops ops ks rest) (upd R d (.slice (some ⟨g, 0, none⟩) 2 2)) (rowc E e [a, b] g 2 :: L)) (hd : decide (d < n.n) = true := by rfl) :
    Gl n w0 S X (.ops ops ks (⟨some d, .buildSlice t 2 #[(0, y), (1, z)], ty, pos, after, none⟩ :: rest)) R L :=
  w_bs (l := [a, b]) [v, u] he (by simp [hc, hc']) rfl hd (by simp [hv, hu]) (by simp) (by simpa using hsm) h
theorem g_nil (E : Enc α) (e : TypeId) (hk : kd.plain = true) (h : Gl n w0 S X kd R (sv E e ([] : List α) none 0 :: L)) : Gl n w0 S X kd R L := g_ent hk (ent_svn (.refl _)) h
end
/-- what is laid against each other, where the written ones are put in the old ones' place -/
def delL (wr : List Bool) (old now : List Blk) (par : Blk) : Nat → List Blk
  | 0 => [par]
  | j + 1 => delL wr old now par j ++ if wr.getD j false then [old.getD j blk0, now.getD j blk0] else []
def resL (wr : List Bool) (old now : List Blk) : Nat → List Blk
  | 0 => []
  | j + 1 => resL wr old now j ++ [if wr.getD j false then now.getD j blk0 else old.getD j blk0]
theorem delL_len (wr : List Bool) (old now : List Blk) (par : Blk) : ∀ j, (delL wr old now par j).length ≤ 1 + 2 * j
  | 0 => by simp [delL]
  | j + 1 => by have := delL_len wr old now par j; simp only [delL, List.length_append]; split <;> simp <;> omega
theorem resL_len (wr : List Bool) (old now : List Blk) : ∀ j, (resL wr old now j).length = j
  | 0 => rfl
  | j + 1 => by simp [resL, resL_len wr old now j]
def parOf (way : Nat) (wr : List Bool) (old now : List Blk) (par : Blk) (n : Nat) : Blk :=
  foldb (if way = 4 then delL wr old now par n else if way = 2 then resL wr now now n else resL wr old now n)
theorem f151 {way n : Nat} {wr : List Bool} {old now : List Blk} {par : Blk} {gw cw go co gn cn : Nat} (h2 : 2 ≤ n) (hn : n ≤ 15) (hw : wr.length = n) (ho : n ≤ old.length) (hnow : now.length = n) (hway : way = 2 ∨ way = 3 ∨ way = 4) :
    CtV Tryz.prog 151 [u8 way, SL gw n cw, SL go n co, SL gn n cn, BV par] [rowc eBool 4 wr gw cw, rowc eBlk 51 old go co, rowc eBlk 51 now gn cn] (T [BV (parOf way wr old now par n), I 0]) := by
  refine w_ct Tryz.func151 rfl Tryz.ntmps151 rfl fun w B => ?_
  refine W2 fun g1 g2 => ?_
  refine cv (f205 h2 hn) ?_
  refine W ?_
  rw [decide_eq_false (show ¬ ((n : Int) ≠ n) by omega)]
  refine W ?_
  rw [decide_eq_false (show ¬ ((n : Int) ≠ n) by omega)]
  refine W ?_
  rcases hway with rfl | rfl | rfl
  · refine W ?_
    refine w_loop (γ := Nat × Option Addr × Nat) (fun ⟨j, a, c⟩ => [(2, SL gn n cn), (3, SL gn n cn), (10, PP g2), (13, .slice a (resL wr now now j).length c), (68, SL gw n cw), (69, I n), (70, I j)]) (fun ⟨j, a, c⟩ => [cl g2 (bl blk0) 51, sv eBlk 51 (resL wr now now j) a c, rowc eBool 4 wr gw cw, rowc eBlk 51 old go co, rowc eBlk 51 now gn cn])
      (fun x => x.1 ≤ n) (fun x => n - x.1) (0, none, 0) sl_ (Ent.sel sel_ (ent_svn ent_)) (Nat.zero_le _) fun ⟨j, a, c⟩ B hj => ?_
    have hj : j ≤ n := hj
    dsimp only
    have hle := resL_len wr now now j
    refine W ?_
    refine w_if rfl (fun h => ?_) (fun h => ?_)
    · refine W ?_
      have hj1 : j < wr.length := by omega
      have hj2 : j < now.length := by omega
      have hj3 : j < now.length := by omega
      cases hw : wr[j]
      · refine W ?_
        refine w_bs1 eBlk now[j] rfl rfl rfl (by decide) fun gt => ?_
        refine W ?_
        refine w_ap eBlk sel_ (rd_row mem_) (by simp; omega) (by simp; omega) fun a' c' => ?_
        refine W ?_
        have e : resL wr now now j ++ [now[j]] = resL wr now now (j + 1) := by simp [resL, List.getD_eq_getElem?_getD, hj1, hj2, hj3, hw]
        rw [e]
        exact w_land rfl (w_round (j + 1, a', c') (by show j + 1 ≤ n; omega) (by show n - (j + 1) < n - j; omega) sl_ ent_)
      · refine W ?_
        refine w_bs1 eBlk now[j] rfl rfl rfl (by decide) fun gt => ?_
        refine W ?_
        refine w_ap eBlk sel_ (rd_row mem_) (by simp; omega) (by simp; omega) fun a' c' => ?_
        refine W ?_
        have e : resL wr now now j ++ [now[j]] = resL wr now now (j + 1) := by simp [resL, List.getD_eq_getElem?_getD, hj1, hj2, hj3, hw]
        rw [e]
        exact w_land rfl (w_round (j + 1, a', c') (by show j + 1 ≤ n; omega) (by show n - (j + 1) < n - j; omega) sl_ ent_)
    · obtain rfl : j = n := by omega
      refine W ?_
      refine cv f170 ?_
      refine W ?_
      exact fin ⟨_, rfl, rfl, rfl⟩
  · refine W ?_
    refine w_loop (γ := Nat × Option Addr × Nat) (fun ⟨j, a, c⟩ => [(2, SL go n co), (3, SL gn n cn), (10, PP g2), (13, .slice a (resL wr old now j).length c), (68, SL gw n cw), (69, I n), (70, I j)]) (fun ⟨j, a, c⟩ => [cl g2 (bl blk0) 51, sv eBlk 51 (resL wr old now j) a c, rowc eBool 4 wr gw cw, rowc eBlk 51 old go co, rowc eBlk 51 now gn cn])
      (fun x => x.1 ≤ n) (fun x => n - x.1) (0, none, 0) sl_ (Ent.sel sel_ (ent_svn ent_)) (Nat.zero_le _) fun ⟨j, a, c⟩ B hj => ?_
    have hj : j ≤ n := hj
    dsimp only
    have hle := resL_len wr old now j
    refine W ?_
    refine w_if rfl (fun h => ?_) (fun h => ?_)
    · refine W ?_
      have hj1 : j < wr.length := by omega
      have hj2 : j < now.length := by omega
      have hj3 : j < old.length := by omega
      cases hw : wr[j]
      · refine W ?_
        refine w_bs1 eBlk old[j] rfl rfl rfl (by decide) fun gt => ?_
        refine W ?_
        refine w_ap eBlk sel_ (rd_row mem_) (by simp; omega) (by simp; omega) fun a' c' => ?_
        refine W ?_
        have e : resL wr old now j ++ [old[j]] = resL wr old now (j + 1) := by simp [resL, List.getD_eq_getElem?_getD, hj1, hj2, hj3, hw]
        rw [e]
        exact w_land rfl (w_round (j + 1, a', c') (by show j + 1 ≤ n; omega) (by show n - (j + 1) < n - j; omega) sl_ ent_)
      · refine W ?_
        refine w_bs1 eBlk now[j] rfl rfl rfl (by decide) fun gt => ?_
        refine W ?_
        refine w_ap eBlk sel_ (rd_row mem_) (by simp; omega) (by simp; omega) fun a' c' => ?_
        refine W ?_
        have e : resL wr old now j ++ [now[j]] = resL wr old now (j + 1) := by simp [resL, List.getD_eq_getElem?_getD, hj1, hj2, hj3, hw]
        rw [e]
        exact w_land rfl (w_round (j + 1, a', c') (by show j + 1 ≤ n; omega) (by show n - (j + 1) < n - j; omega) sl_ ent_)
    · obtain rfl : j = n := by omega
      refine W ?_
      refine cv f170 ?_
      refine W ?_
      exact fin ⟨_, rfl, rfl, rfl⟩
  · refine W ?_
    refine w_bs1 eBlk par rfl rfl rfl (by decide) fun gt => ?_
    refine W ?_
    refine g_nil eBlk 51 rfl ?_
    refine w_ap eBlk sel_ (rd_row mem_) (by simp) (by simp) fun a0 c0 => ?_
    refine W ?_
    refine w_loop (γ := Nat × Option Addr × Nat) (fun ⟨j, a, c⟩ => [(2, SL go n co), (3, SL gn n cn), (10, PP g2), (13, .slice a (delL wr old now par j).length c), (47, SL gw n cw), (48, I n), (49, I j)]) (fun ⟨j, a, c⟩ => [cl g2 (bl blk0) 51, sv eBlk 51 (delL wr old now par j) a c, rowc eBool 4 wr gw cw, rowc eBlk 51 old go co, rowc eBlk 51 now gn cn])
      (fun x => x.1 ≤ n) (fun x => n - x.1) (0, a0, c0) sl_ ent_ (Nat.zero_le _) fun ⟨j, a, c⟩ B hj => ?_
    have hj : j ≤ n := hj
    dsimp only
    have hle := delL_len wr old now par j
    refine W ?_
    refine w_if rfl (fun h => ?_) (fun h => ?_)
    · refine W ?_
      have hj1 : j < wr.length := by omega
      have hj2 : j < now.length := by omega
      have hj3 : j < old.length := by omega
      cases hw : wr[j]
      · refine W ?_
        have e : delL wr old now par j = delL wr old now par (j + 1) := by simp [delL, List.getD_eq_getElem?_getD, hj1, hj2, hj3, hw]
        rw [e]
        exact w_land rfl (w_round (j + 1, a, c) (by show j + 1 ≤ n; omega) (by show n - (j + 1) < n - j; omega) sl_ ent_)
      · refine W ?_
        refine w_bs2 eBlk old[j] now[j] rfl rfl rfl rfl rfl (by decide) fun gt => ?_
        refine W ?_
        refine w_ap eBlk sel_ (rd_row mem_) (by simp; omega) (by simp; omega) fun a' c' => ?_
        refine W ?_
        have e : delL wr old now par j ++ [old[j], now[j]] = delL wr old now par (j + 1) := by simp [delL, List.getD_eq_getElem?_getD, hj1, hj2, hj3, hw]
        rw [e]
        exact w_land rfl (w_round (j + 1, a', c') (by show j + 1 ≤ n; omega) (by show n - (j + 1) < n - j; omega) sl_ ent_)
    · obtain rfl : j = n := by omega
      refine W ?_
      refine cv f170 ?_
      refine W ?_
      exact fin ⟨_, rfl, rfl, rfl⟩
end Go.Proofs.YtnilejkfbcnkkaaGreatDoor.V
end
