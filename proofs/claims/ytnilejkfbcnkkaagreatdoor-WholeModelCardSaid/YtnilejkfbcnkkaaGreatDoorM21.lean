/- Proved: which block of a stripe is not there, which are needed; which blocks of a stripe are needed; a stripe's plan; rosters compared; what a stripe's new parity comes to; the conditions stand in the statements. -/
import Derived.Test.YtnilejkfbcnkkaaGreatDoorM20
import Derived.DeepKeys
import Derived.Laws.StructEq
set_option linter.unusedVariables false
set_option linter.unusedSimpArgs false
set_option linter.unusedSectionVars false
section
set_option maxRecDepth 100000
set_option maxHeartbeats 1000000
namespace Go.Proofs.YtnilejkfbcnkkaaGreatDoor.V
variable [GlK]
open Go Go.RowKit
attribute [local irreducible] Yields cl blk pur rowc sv exC fo cnt xorb blk0

/-- a stripe's value: its number, its data's members, its parity's, what is written -/
abbrev stqL (g : Geo) (n ad aw an : Nat) : List Value := [I n, SL ad (g.m - 1) (g.m - 1), I (g.par n), SL aw (g.m - 1) (g.m - 1), SL an (g.m - 1) (g.m - 1)]
def datL (g : Geo) (n : Nat) : List Nat := (List.range (g.m - 1)).map (g.dat n)
theorem datL_len {g : Geo} {n : Nat} : (datL g n).length = g.m - 1 := by unfold datL; rw [List.length_map, List.length_range]
theorem datL_get {g : Geo} {n i : Nat} (h : i < (datL g n).length) : (datL g n)[i] = g.dat n i := by simp [datL]
theorem sv_rowE {α : Type} {E : Enc α} {e : TypeId} {l : List α} {ga c : Nat} {K L : Hp} (hs : Sel (sv E e l (some ⟨ga, 0, none⟩) c) L K) : Ent L (rowc E e l ga c :: K) := by
  refine (Ent.perm hs).trans ?_
  rintro B ⟨B1, B2, rfl, h1, h2⟩
  refine ⟨B1 ++ B2, [], by simp, B1, B2, rfl, ?_, h2⟩
  unfold sv at h1
  rcases h1 with ⟨h, _⟩ | ⟨g, cc, h, h3, h4⟩
  · cases h
  · cases h
    unfold rowc
    exact ⟨cc, h3, h4⟩
section
variable {g : Geo} {n ad aw an : Nat} {r : Ros}
theorem f204 (hr : RosOk r) (hg : r.g = g) (hn : n < g.s) : Ct Tryz.prog 204 [A (stqL g n ad aw an), RV r] [rowc eNat 3 (datL g n) ad (g.m - 1)] (fun v L => ∃ lost : Int, v = .int .i64 lost ∧ L = [rowc eNat 3 (datL g n) ad (g.m - 1)] ∧ -1 ≤ lost ∧ lost ≤ ((g.m - 1 : Nat) : Int) ∧ (lost = ((g.m - 1 : Nat) : Int) → r.has (g.par n) n = false) ∧ (lost ≠ ((g.m - 1 : Nat) : Int) → r.has (g.par n) n = true ∨ ∃ i, i < g.m - 1 ∧ r.has (g.dat n i) n = false)) := by
  have hgm : GeoOk g := hg ▸ hr.ge
  have hm3 := hgm.m3
  have hm16 := hgm.m16
  have h200 := f200 (l := datL g n) (a := some ⟨ad, 0, none⟩) (c := g.m - 1) (by rw [datL_len]; omega)
  rw [datL_len] at h200
  refine w_ct Tryz.func204 rfl Tryz.ntmps204 rfl fun w B => ?_
  refine g_ent rfl (show Ent _ [sv eNat 3 (datL g n) (some ⟨ad, 0, none⟩) (g.m - 1)] from ent_sv ent_) ?_
  refine W2 fun g2 g3 => ?_
  refine w_dag [.q 0, .q 1, .q 3, .q 4, .f 5, .q 8, .m 2 [3, 4, 8], .a 5, .m 6 [8], .q 7] (by decide +kernel) ?_
  refine W ?_
  refine w_dgf rfl rfl (fr_bs (E := eNat) [g.par n] [I (g.par n)] rfl rfl rfl rfl (by simp; rfl) (by simp) (by show 1 * 1 ≤ 16777216; decide)) ?_
  refine W ?_
  refine dm fun E => ?_
  refine cl' h200 ?_
  rintro _ _ ⟨a', c', rfl, rfl⟩
  refine W1 fun gt => ?_
  refine dm fun E => ?_
  refine w_ap eNat (sel_ : Sel (sv eNat 3 _ a' c') _ _) (rd_row (show rowc eNat 3 [g.par n] gt 1 ∈ _ from mem_)) (by rw [datL_len]; simp; omega) (by rw [datL_len]; simp; omega) (hn0 := datL_len.symm) fun a2 c2 => ?_
  refine W ?_
  have hml : (datL g n ++ [g.par n]).length = g.m - 1 + 1 := by rw [List.length_append, datL_len]; rfl
  have hmem : ∀ j (hj : j < (datL g n ++ [g.par n]).length), (datL g n ++ [g.par n])[j] < r.g.m := by
    intro j hj
    rw [hg]
    rcases List.mem_append.1 (List.getElem_mem hj) with h | h
    · obtain ⟨i, hi, e⟩ := List.mem_map.1 (show _ ∈ (List.range (g.m - 1)).map (g.dat n) from h)
      rw [← e]; exact Geo.dat_lt hgm n i
    · rw [List.mem_singleton.1 h]; exact Geo.par_lt hgm n
  refine w_loop (γ := Nat) (fun j => [(2, PP g2), (3, PP g3), (13, .slice a2 (datL g n ++ [g.par n]).length c2), (14, I (datL g n ++ [g.par n]).length), (15, I j)])
    (fun j => [sv eNat 3 (datL g n ++ [g.par n]) a2 c2, rowc eNat 3 (datL g n) ad (g.m - 1), cl g3 (roL r) 92, cl g2 (stqL g n ad aw an) 147]) (fun j => j ≤ (datL g n ++ [g.par n]).length ∧ ∀ i (hi : i < (datL g n ++ [g.par n]).length), i < j → r.has (datL g n ++ [g.par n])[i] n = true) (fun j => (datL g n ++ [g.par n]).length - j) 0 sl_ ?_
    ⟨Nat.zero_le _, fun i _ hi => absurd hi (Nat.not_lt_zero _)⟩ fun j B ⟨hj, hall⟩ => ?_
  · refine Ent.sel sel_ ?_
    exact Ent.trans (sv_rowE (sel_ : Sel (sv eNat 3 (datL g n) (some ⟨ad, 0, none⟩) (g.m - 1)) _ _)) ent_
  refine W ?_
  refine w_if rfl (fun h => ?_) (fun h => ?_)
  · have hlt : j < (datL g n ++ [g.par n]).length := by omega
    have h247 := f247 (r := r) hr (m := (datL g n ++ [g.par n])[j]) (n := n) (hmem j hlt) (by rw [hg]; exact hn)
    refine w_skip ?_
    refine g_svp rfl (sel_ : Sel (sv eNat 3 (datL g n ++ [g.par n]) a2 c2) _ _) (by omega) fun ga hga => ?_
    subst hga
    refine W ?_
    refine cv h247 ?_
    cases hh : r.has (datL g n ++ [g.par n])[j] n with
    | false =>
      refine W ?_
      refine fin ⟨_, rfl, (j : Int), rfl, rfl, by omega, by omega, fun e => ?_, fun e => ?_⟩
      · have e : j = (datL g n).length := by rw [datL_len]; omega
        subst e
        rw [List.getElem_append_right (Nat.le_refl _)] at hh
        simpa using hh
      · have hlt2 : j < (datL g n).length := by rw [datL_len]; omega
        rw [List.getElem_append_left hlt2, datL_get hlt2] at hh
        exact .inr ⟨j, by omega, hh⟩
    | true =>
      refine W ?_
      exact w_land rfl (w_round (j + 1) ⟨hlt, fun i hi hij => by by_cases c : i = j; (· subst c; exact hh); (· exact hall i hi (by omega))⟩ (by show _ - (j + 1) < _ - j; omega) sl_ (Ent.trans (Ent.sel (sel_ : Sel (rowc eNat 3 (datL g n ++ [g.par n]) ga c2) _ _) (.refl _)) (ent_sv ent_)))
  · refine W ?_
    refine fin ⟨_, rfl, -1, rfl, rfl, by omega, by omega, fun e => by omega, fun _ => .inl ?_⟩
    have := hall (datL g n).length (by rw [List.length_append]; simp) (by rw [List.length_append] at h; rw [hml] at hj; have := @datL_len _ g n; simp at h; omega)
    rw [List.getElem_append_right (Nat.le_refl _)] at this
    simpa using this
end
end Go.Proofs.YtnilejkfbcnkkaaGreatDoor.V
end
section
set_option maxRecDepth 100000
set_option maxHeartbeats 1000000
namespace Go.Proofs.YtnilejkfbcnkkaaGreatDoor.V
variable [GlK]
open Go Go.RowKit
attribute [local irreducible] Yields cl blk pur rowc sv exC fo cnt xorb blk0

def Geo.mem (g : Geo) (n i : Nat) : Nat := if i = g.m - 1 then g.par n else g.dat n i
def ndW (wr : List Bool) (way i : Nat) : Bool := (decide (way = 3) && !(wr.getD i false)) || (decide (way = 4) && wr.getD i false)
def nds (wr : List Bool) (way : Nat) : List Nat := ((List.range wr.length).filter (ndW wr way)) ++ if way = 4 then [wr.length] else []
section
variable {g : Geo} {n ad aw an : Nat} {r : Ros} {wr : List Bool}
theorem f150 {i : Nat} (hg : GeoOk g) (hi : i ≤ g.m - 1) : CtV Tryz.prog 150 [A (stqL g n ad aw an), I i] [rowc eNat 3 (datL g n) ad (g.m - 1)] (I (g.mem n i)) := by
  have hm3 := hg.m3
  refine w_ct Tryz.func150 rfl Tryz.ntmps150 rfl fun w B => ?_
  refine W1 fun g1 => ?_
  by_cases h : i = g.m - 1
  · rw [decide_eq_true (show ((i : Nat) : Int) = ((g.m - 1 : Nat) : Int) by omega)]
    refine W ?_
    exact fin ⟨_, rfl, by unfold Geo.mem; rw [if_pos h], rfl⟩
  · rw [decide_eq_false (show ¬ ((i : Nat) : Int) = ((g.m - 1 : Nat) : Int) by omega)]
    have hlt : i < (datL g n).length := by rw [datL_len]; omega
    refine W ?_
    exact fin ⟨_, rfl, by unfold Geo.mem; rw [if_neg h, ← datL_get hlt], rfl⟩
theorem take_range {m j : Nat} (h : j < m) (p : Nat → Bool) : ((List.range (j + 1)).filter p) = (List.range j).filter p ++ if p j then [j] else [] := by
  rw [List.range_succ, List.filter_append]
  congr 1
  cases hp : p j <;> simp [hp]
theorem f149 {way : Nat} (hg : GeoOk g) (hwr : wr.length = g.m - 1) (hw : way = 1 ∨ way = 2 ∨ way = 3 ∨ way = 4) :
    Ct Tryz.prog 149 [A (stqL g n ad aw an), u8 way] [rowc eBool 4 wr aw (g.m - 1)] (fun v L => ∃ (a : Option Addr) (c : Nat), v = .slice a (nds wr way).length c ∧ L = [rowc eBool 4 wr aw (g.m - 1), sv eNat 3 (nds wr way) a c]) := by
  have hm3 := hg.m3
  have hm16 := hg.m16
  refine w_ct Tryz.func149 rfl Tryz.ntmps149 rfl fun w B => ?_
  refine W1 fun g1 => ?_
  refine g_nil eNat 3 rfl ?_
  refine w_loop (γ := Nat × Option Addr × Nat) (fun ⟨j, a, c⟩ => [(1, u8 way), (2, PP g1), (5, .slice a ((List.range j).filter (ndW wr way)).length c), (9, SL aw (g.m - 1) (g.m - 1)), (10, I (g.m - 1)), (11, I j)])
    (fun ⟨j, a, c⟩ => [cl g1 (stqL g n ad aw an) 147, rowc eBool 4 wr aw (g.m - 1), sv eNat 3 ((List.range j).filter (ndW wr way)) a c]) (fun ⟨j, a, c⟩ => j ≤ g.m - 1) (fun x => g.m - 1 - x.1) (0, none, 0) sl_ ent_
    (Nat.zero_le _) fun ⟨j, a, c⟩ B hj => ?_
  dsimp only at hj ⊢
  have hfl : ((List.range j).filter (ndW wr way)).length ≤ 16 := by
    have := List.length_filter_le (ndW wr way) (List.range j)
    rw [List.length_range] at this
    omega
  refine W ?_
  refine w_if rfl (fun h => ?_) (fun h => ?_)
  · have hlt : j < g.m - 1 := by omega
    have hltw : j < wr.length := by omega
    have hgd : wr.getD j false = wr[j] := by rw [List.getD_eq_getElem?_getD, List.getElem?_eq_getElem hltw]; rfl
    by_cases e3 : way = 3
    · subst e3
      refine W ?_
      cases hb : wr[j] with
      | false =>
        have hnd : ndW wr 3 j = true := by unfold ndW; rw [hgd, hb]; simp 
        refine W ?_
        refine w_bs1 eNat j rfl rfl rfl (by decide) fun gt => ?_
        refine W ?_
        refine w_ap eNat (sel_ : Sel (sv eNat 3 _ a c) _ _) (rd_row (show rowc eNat 3 [j] gt 1 ∈ _ from mem_)) (by simp; omega) (by simp; omega) (hn0 := rfl) fun a2 c2 => ?_
        have e1 : (List.range j).filter (ndW wr 3) ++ [j] = (List.range (j + 1)).filter (ndW wr 3) := by rw [take_range hlt, hnd]; rfl
        rw [e1]
        refine W ?_
        exact w_land rfl (w_round (j + 1, a2, c2) (by show j + 1 ≤ g.m - 1; omega) (by show g.m - 1 - (j + 1) < g.m - 1 - j; omega) sl_ ent_)
      | true =>
        have hnd : ndW wr 3 j = false := by unfold ndW; rw [hgd, hb]; simp 
        refine W ?_
        have e1 : (List.range j).filter (ndW wr 3) = (List.range (j + 1)).filter (ndW wr 3) := by rw [take_range hlt, hnd]; simp
        rw [e1]
        refine W ?_
        exact w_land rfl (w_round (j + 1, a, c) (by show j + 1 ≤ g.m - 1; omega) (by show g.m - 1 - (j + 1) < g.m - 1 - j; omega) sl_ ent_)
    · by_cases e4 : way = 4
      · subst e4
        refine W ?_
        cases hb : wr[j] with
        | false =>
          have hnd : ndW wr 4 j = false := by unfold ndW; rw [hgd, hb]; simp 
          refine W ?_
          have e1 : (List.range j).filter (ndW wr 4) = (List.range (j + 1)).filter (ndW wr 4) := by rw [take_range hlt, hnd]; simp
          rw [e1]
          refine W ?_
          exact w_land rfl (w_round (j + 1, a, c) (by show j + 1 ≤ g.m - 1; omega) (by show g.m - 1 - (j + 1) < g.m - 1 - j; omega) sl_ ent_)
        | true =>
          have hnd : ndW wr 4 j = true := by unfold ndW; rw [hgd, hb]; simp 
          refine W ?_
          refine w_bs1 eNat j rfl rfl rfl (by decide) fun gt => ?_
          refine W ?_
          refine w_ap eNat (sel_ : Sel (sv eNat 3 _ a c) _ _) (rd_row (show rowc eNat 3 [j] gt 1 ∈ _ from mem_)) (by simp; omega) (by simp; omega) (hn0 := rfl) fun a2 c2 => ?_
          have e1 : (List.range j).filter (ndW wr 4) ++ [j] = (List.range (j + 1)).filter (ndW wr 4) := by rw [take_range hlt, hnd]; rfl
          rw [e1]
          refine W ?_
          exact w_land rfl (w_round (j + 1, a2, c2) (by show j + 1 ≤ g.m - 1; omega) (by show g.m - 1 - (j + 1) < g.m - 1 - j; omega) sl_ ent_)
      · refine W ?_
        rw [decide_eq_false (show ¬ ((way : Nat) : Int) = 3 by omega)]
        refine W ?_
        rw [decide_eq_false (show ¬ ((way : Nat) : Int) = 4 by omega)]
        cases hb : wr[j] with
        | false =>
          have hnd : ndW wr way j = false := by unfold ndW; rw [hgd, hb]; simp [e3, e4]
          refine W ?_
          have e1 : (List.range j).filter (ndW wr way) = (List.range (j + 1)).filter (ndW wr way) := by rw [take_range hlt, hnd]; simp
          rw [e1]
          refine W ?_
          exact w_land rfl (w_round (j + 1, a, c) (by show j + 1 ≤ g.m - 1; omega) (by show g.m - 1 - (j + 1) < g.m - 1 - j; omega) sl_ ent_)
        | true =>
          have hnd : ndW wr way j = false := by unfold ndW; rw [hgd, hb]; simp [e3, e4]
          refine W ?_
          have e1 : (List.range j).filter (ndW wr way) = (List.range (j + 1)).filter (ndW wr way) := by rw [take_range hlt, hnd]; simp
          rw [e1]
          refine W ?_
          exact w_land rfl (w_round (j + 1, a, c) (by show j + 1 ≤ g.m - 1; omega) (by show g.m - 1 - (j + 1) < g.m - 1 - j; omega) sl_ ent_)
  · have hjj : j = g.m - 1 := by omega
    subst hjj
    rw [hwr.symm] at hj
    by_cases e4 : way = 4
    · subst e4
      have e : nds wr 4 = (List.range (g.m - 1)).filter (ndW wr 4) ++ [g.m - 1] := by unfold nds; rw [if_pos rfl, hwr]
      rw [e]
      refine W ?_
      refine w_bs1 eNat (g.m - 1) rfl rfl rfl (by decide) fun gt => ?_
      refine W ?_
      refine w_ap eNat (sel_ : Sel (sv eNat 3 _ a c) _ _) (rd_row (show rowc eNat 3 [g.m - 1] gt 1 ∈ _ from mem_)) (by simp; omega) (by simp; omega) (hn0 := rfl) fun a2 c2 => ?_
      refine W ?_
      exact fin ⟨_, rfl, a2, c2, rfl, rfl⟩
    · have e : nds wr way = (List.range (g.m - 1)).filter (ndW wr way) := by unfold nds; rw [if_neg e4, hwr, List.append_nil]
      rw [e]
      refine W ?_
      rw [decide_eq_false (show ¬ ((way : Nat) : Int) = 4 by omega)]
      refine W ?_
      exact fin ⟨_, rfl, a, c, rfl, rfl⟩
end
end Go.Proofs.YtnilejkfbcnkkaaGreatDoor.V
end
section
set_option maxRecDepth 100000
set_option maxHeartbeats 1000000
namespace Go.Proofs.YtnilejkfbcnkkaaGreatDoor.V
variable [GlK]
open Go Go.RowKit
attribute [local irreducible] Yields cl blk pur rowc sv exC fo cnt xorb blk0

section
variable {gv gh gb gs : Nat} {l : Value} {h : Hul} {s : Shf}
variable {n ad aw an : Nat} {wr : List Bool}
theorem f148 (hr : RosOk h.r) (hn : n < h.r.g.s) (hwr : wr.length = h.r.g.m - 1) (hc : 0 < wr.count true) :
    Ct Tryz.prog 148 [PP gv, A (stqL h.r.g n ad aw an)] [vtC gv gh gb gs l, huC gh gb h, ShC gs h.r.g s, rowc eNat 3 (datL h.r.g n) ad (h.r.g.m - 1), rowc eBool 4 wr aw (h.r.g.m - 1)]
      (fun v L => L = [vtC gv gh gb gs l, huC gh gb h, ShC gs h.r.g s, rowc eNat 3 (datL h.r.g n) ad (h.r.g.m - 1), rowc eBool 4 wr aw (h.r.g.m - 1)] ∧
        ∃ way a nn c, v = A [u8 way, .slice a nn c] ∧ ((way = 1 ∧ h.r.has (h.r.g.par n) n = false) ∨ (((way = 2 ∧ wr.count true = wr.length) ∨ way = 3 ∨ way = 4) ∧ (h.r.has (h.r.g.par n) n = true ∨ ∃ i, i < h.r.g.m - 1 ∧ h.r.has (h.r.g.dat n i) n = false)))) := by
  have hg := hr.ge
  have hm3 := hg.m3
  have hm16 := hg.m16
  have h155 := f155 (gs := gs) (s := s) hg hn
  have h41 := f41 (gh := gh) (gb := gb) (h := h)
  have h204 := f204 (g := h.r.g) (n := n) (ad := ad) (aw := aw) (an := an) hr rfl hn
  refine w_ct Tryz.func148 rfl Tryz.ntmps148 rfl fun w B => ?_
  refine W2 fun g3 g4 => ?_
  refine cl' h155 ?_
  rintro _ _ ⟨ka, rfl, rfl⟩
  refine W ?_
  refine g_nil eBool 4 rfl ?_
  refine w_loop (γ := Nat × Option Addr × Nat) (fun ⟨j, a, c⟩ => [(0, PP gv), (3, PP g3), (4, PP g4), (5, SL ka h.r.g.m h.r.g.m), (6, .slice a j c), (19, SL ad (h.r.g.m - 1) (h.r.g.m - 1)), (20, I (h.r.g.m - 1)), (21, I j)])
    (fun ⟨j, a, c⟩ => [vtC gv gh gb gs l, huC gh gb h, ShC gs h.r.g s, rowc eNat 3 (datL h.r.g n) ad (h.r.g.m - 1), rowc eBool 4 wr aw (h.r.g.m - 1), rowc eBool 4 ((List.range h.r.g.m).map (s.F n).kn) ka h.r.g.m, cl g3 (stqL h.r.g n ad aw an) 147, cl g4 [u8 0, .slice none 0 0] 204, sv eBool 4 ((List.range j).map fun i => (s.F n).kn (h.r.g.dat n i)) a c]) (fun ⟨j, a, c⟩ => j ≤ h.r.g.m - 1) (fun x => h.r.g.m - 1 - x.1) (0, none, 0) sl_ ent_
    (Nat.zero_le _) fun ⟨j, a, c⟩ B hj => ?_
  dsimp only at hj ⊢
  refine W ?_
  refine w_if rfl (fun h' => ?_) (fun h' => ?_)
  · have hlt : j < h.r.g.m - 1 := by omega
    have hltd : j < (datL h.r.g n).length := by rw [datL_len]; omega
    have hgd := datL_get hltd
    have hdl := Geo.dat_lt hg n j
    have hltk : (datL h.r.g n)[j] < ((List.range h.r.g.m).map (s.F n).kn).length := by rw [hgd]; simpa using hdl
    have hgk : ((List.range h.r.g.m).map (s.F n).kn)[(datL h.r.g n)[j]] = (s.F n).kn (h.r.g.dat n j) := by simp [hgd]
    refine W ?_
    rw [hgk]
    refine w_bs1 eBool ((s.F n).kn (h.r.g.dat n j)) rfl rfl rfl (by decide) fun gt => ?_
    refine W ?_
    refine w_ap eBool (sel_ : Sel (sv eBool 4 _ a c) _ _) (rd_row (show rowc eBool 4 [(s.F n).kn (h.r.g.dat n j)] gt 1 ∈ _ from mem_)) (by simp; omega) (by simp; omega) (hn0 := by simp) fun a2 c2 => ?_
    have e1 : (List.range j).map (fun i => (s.F n).kn (h.r.g.dat n i)) ++ [(s.F n).kn (h.r.g.dat n j)] = (List.range (j + 1)).map fun i => (s.F n).kn (h.r.g.dat n i) := by rw [List.range_succ, List.map_append]; rfl
    have e2 : ((List.range (j + 1)).map fun i => (s.F n).kn (h.r.g.dat n i)).length = j + 1 := by simp
    rw [e1, e2]
    refine W ?_
    exact w_land rfl (w_round (j + 1, a2, c2) (by show j + 1 ≤ h.r.g.m - 1; omega) (by show h.r.g.m - 1 - (j + 1) < h.r.g.m - 1 - j; omega) sl_ ent_)
  · have hjj : j = h.r.g.m - 1 := by omega
    subst hjj
    refine W ?_
    have hpl := Geo.par_lt hg n
    have hltk : h.r.g.par n < ((List.range h.r.g.m).map (s.F n).kn).length := by simpa using hpl
    have hgk : ((List.range h.r.g.m).map (s.F n).kn)[h.r.g.par n] = (s.F n).kn (h.r.g.par n) := by simp
    have e3 : ((List.range (h.r.g.m - 1)).map fun i => (s.F n).kn (h.r.g.dat n i)).length = h.r.g.m - 1 := by simp
    refine g_svp rfl (sel_ : Sel (sv eBool 4 _ a c) _ _) (by rw [e3]; omega) fun ga hga => ?_
    subst hga
    refine w_dag [.q 0, .q 1, .q 2, .q 3, .q 4, .q 5, .q 6, .q 7, .q 8, .q 9, .q 10, .q 11, .q 12, .f 19, .m 13 [0, 1, 2, 3, 4, 5, 6, 7, 8], .m 14 [0, 1, 2, 3, 4, 5, 6, 7], .m 15 [], .q 16, .q 17, .q 18, .a 19, .m 20 [18], .q 21] (by decide +kernel) ?_
    refine W ?_
    refine dm fun E => ?_
    refine cv h41 ?_
    refine W ?_
    refine dm fun E => ?_
    refine cl' h204 ?_
    rintro _ _ ⟨lost, rfl, rfl, hl1, hl2, hl3, hl4⟩
    have h203 := f203 (wr := wr) (kn := (List.range (h.r.g.m - 1)).map fun i => (s.F n).kn (h.r.g.dat n i)) (gw := aw) (cw := h.r.g.m - 1) (gk := ga) (ck := c) (par := ((List.range h.r.g.m).map (s.F n).kn)[h.r.g.par n]) (lost := lost) (by omega) (by omega) (by rw [e3, hwr]) hl1 (by rw [hwr]; exact hl2) hc
    rw [e3] at h203
    rw [hwr] at h203
    refine W ?_
    refine dm fun E => ?_
    refine cl' h203 ?_
    rintro _ _ ⟨⟨way, a', nn, c', hway, rfl⟩, rfl⟩
    refine W1 fun g9 => ?_
    refine cv f79v ?_
    refine W ?_
    refine fin ⟨_, rfl, rfl, way, a', nn, c', rfl, ?_⟩
    unfold wayOf at hway
    rw [hwr] at hway
    rcases hway with ⟨e, h1⟩ | ⟨e, h1, h2⟩ | ⟨e, _, h1⟩
    · exact .inl ⟨h1, hl3 e⟩
    · exact .inr ⟨.inl ⟨h2, by rw [h1, hwr]⟩, hl4 e⟩
    · exact .inr ⟨.inr h1, hl4 e⟩
end
end Go.Proofs.YtnilejkfbcnkkaaGreatDoor.V
end
section
set_option maxRecDepth 100000
set_option maxHeartbeats 1000000
namespace Go.Proofs.YtnilejkfbcnkkaaGreatDoor.V
variable [GlK]
open Go Go.RowKit
attribute [local irreducible] Yields cl blk pur rowc sv exC fo cnt xorb blk0

def roLit (r : Ros) : List Lit := [.int .i64 r.g.m, .int .i64 r.g.s, .int .i64 r.g.r, .int .u8 (r.st 0), .int .u8 (r.st 1), .int .u8 (r.st 2), .int .u8 (r.st 3), .int .u8 (r.st 4), .int .u8 (r.st 5), .int .u8 (r.st 6), .int .u8 (r.st 7), .int .u8 (r.st 8), .int .u8 (r.st 9), .int .u8 (r.st 10), .int .u8 (r.st 11), .int .u8 (r.st 12), .int .u8 (r.st 13), .int .u8 (r.st 14), .int .u8 (r.st 15), .int .i64 r.cur, .bool r.gone]
theorem c92 : Tryz.prog.cellsOf 92 = 21 := by kernel_rfl
theorem c90 : Tryz.prog.cellsOf 90 = 16 := by kernel_rfl
theorem c27 : Tryz.prog.cellsOf 27 = 3 := by kernel_rfl
theorem c3 : Tryz.prog.cellsOf 3 = 1 := by kernel_rfl
theorem c4 : Tryz.prog.cellsOf 4 = 1 := by kernel_rfl
theorem c5 : Tryz.prog.cellsOf 5 = 1 := by kernel_rfl
theorem ro_formed {r : Ros} : (RV r).formed Tryz.prog 92 = true := by
  simp only [Value.formed, Tryz.underlying92, c92]
  rfl
theorem k3 {d n : Nat} (hn : n ≤ 1000) : Tryz.prog.keyLits (d + 1) 3 [I n] = some [.int .i64 n] := by
  have h1 : IntKind.i64.min = -9223372036854775808 := rfl
  have h2 : IntKind.i64.max = 9223372036854775807 := rfl
  have hw : (Lit.int .i64 (n : Int)).wf = true := by
    simp only [Lit.wf, h1, h2, Bool.and_eq_true, decide_eq_true_eq]
    omega
  simp only [Program.keyLits, Tryz.underlying3, hw, and_self, if_true]
theorem k5 {d n : Nat} (hn : n ≤ 2) : Tryz.prog.keyLits (d + 1) 5 [u8 n] = some [.int .u8 n] := by
  have h1 : IntKind.u8.min = 0 := rfl
  have h2 : IntKind.u8.max = 255 := rfl
  have hw : (Lit.int .u8 (n : Int)).wf = true := by
    simp only [Lit.wf, h1, h2, Bool.and_eq_true, decide_eq_true_eq]
    omega
  simp only [Program.keyLits, Tryz.underlying5, hw, and_self, if_true]
theorem k4 {d : Nat} {b : Bool} : Tryz.prog.keyLits (d + 1) 4 [.bool b] = some [.bool b] := by
  simp only [Program.keyLits, Tryz.underlying4]
theorem k27 {d a b c : Nat} (ha : a ≤ 1000) (hb : b ≤ 1000) (hc : c ≤ 1000) : Tryz.prog.keyLits (d + 2) 27 [I a, I b, I c] = some [.int .i64 a, .int .i64 b, .int .i64 c] := by
  unfold Program.keyLits
  simp only [Tryz.underlying27, c27]
  rw [if_pos ⟨rfl, by decide +kernel⟩]
  simp only [List.mapM_cons, List.mapM_nil, c3, List.drop_zero, List.drop_succ_cons, List.take_succ_cons, List.take_zero, k3 ha, k3 hb, k3 hc]
  rfl
theorem k90 {d : Nat} {st : Nat → Nat} (h : ∀ j, j < 16 → st j ≤ 2) : Tryz.prog.keyLits (d + 2) 90 (stL st) = some [.int .u8 (st 0), .int .u8 (st 1), .int .u8 (st 2), .int .u8 (st 3), .int .u8 (st 4), .int .u8 (st 5), .int .u8 (st 6), .int .u8 (st 7), .int .u8 (st 8), .int .u8 (st 9), .int .u8 (st 10), .int .u8 (st 11), .int .u8 (st 12), .int .u8 (st 13), .int .u8 (st 14), .int .u8 (st 15)] := by
  unfold Program.keyLits
  simp only [Tryz.underlying90, c90]
  rw [if_pos (show (stL st).length = 16 from rfl)]
  have e : List.range 16 = [0, 1, 2, 3, 4, 5, 6, 7, 8, 9, 10, 11, 12, 13, 14, 15] := by decide
  rw [e]
  simp only [List.mapM_cons, List.mapM_nil, c5, Nat.mul_one, List.drop_zero, List.drop_succ_cons, List.take_succ_cons, List.take_zero, k5 (h 0 (by decide)), k5 (h 1 (by decide)), k5 (h 2 (by decide)), k5 (h 3 (by decide)), k5 (h 4 (by decide)), k5 (h 5 (by decide)), k5 (h 6 (by decide)), k5 (h 7 (by decide)), k5 (h 8 (by decide)), k5 (h 9 (by decide)), k5 (h 10 (by decide)), k5 (h 11 (by decide)), k5 (h 12 (by decide)), k5 (h 13 (by decide)), k5 (h 14 (by decide)), k5 (h 15 (by decide))]
  rfl
theorem ro_lits {r : Ros} (hr : RosOk r) : Tryz.prog.keyLits 5 92 (roL r) = some (roLit r) := by
  have hm := hr.ge.m16
  have hs := hr.ge.s64
  have hrr := hr.ge.r256
  have hc := hr.cur
  unfold Program.keyLits
  simp only [Tryz.underlying92, c92]
  rw [if_pos ⟨rfl, by decide +kernel⟩]
  have h1 := k27 (d := 2) (a := r.g.m) (b := r.g.s) (c := r.g.r) (by omega) (by omega) (by omega)
  have h2 := k90 (d := 2) (st := r.st) hr.lo
  have h3 := k3 (d := 3) (n := r.cur) (by omega)
  have h4 := k4 (d := 3) (b := r.gone)
  simp only [List.mapM_cons, List.mapM_nil, c27, c90, c3, c4, List.drop_zero, List.drop_succ_cons, List.take_succ_cons, List.take_zero, h1, h2, h3, h4]
  rfl
/-- alike -/
def Ros.same (r r' : Ros) : Prop := r.g.m = r'.g.m ∧ r.g.s = r'.g.s ∧ r.g.r = r'.g.r ∧ (∀ j, j < 16 → r.st j = r'.st j) ∧ r.cur = r'.cur ∧ r.gone = r'.gone
instance {r r' : Ros} : Decidable (r.same r') := by unfold Ros.same; infer_instance
theorem lit_same {r r' : Ros} : roLit r = roLit r' ↔ r.same r' := by
  unfold roLit Ros.same
  simp only [List.cons.injEq, Lit.int.injEq, Lit.bool.injEq, true_and, and_true]
  constructor
  · rintro ⟨h1, h2, h3, s0, s1, s2, s3, s4, s5, s6, s7, s8, s9, s10, s11, s12, s13, s14, s15, h4, h5⟩
    refine ⟨by omega, by omega, by omega, fun j hj => ?_, by omega, h5⟩
    match j, hj with
    | 0, _ | 1, _ | 2, _ | 3, _ | 4, _ | 5, _ | 6, _ | 7, _ | 8, _ | 9, _ | 10, _ | 11, _ | 12, _ | 13, _ | 14, _ | 15, _ => omega
    | j + 16, h => omega
  · rintro ⟨h1, h2, h3, h, h4, h5⟩
    refine ⟨by omega, by omega, by omega, ?_, ?_, ?_, ?_, ?_, ?_, ?_, ?_, ?_, ?_, ?_, ?_, ?_, ?_, ?_, ?_, by omega, h5⟩
    all_goals (have := h _ (by first | exact (show 0 < 16 by decide) | exact (show 1 < 16 by decide)); first | omega | skip)
    all_goals first | omega | (rw [h]; decide) | (exact congrArg _ (h _ (by decide)))
section
variable {n : Fp} {w0 : World} {S : Nat → Prop} {R : Regs} {H : Hp}
variable {dst : Option Tmp} {ty : TypeId} {pos : String} {after : Array Go.Edge} {gd : Option (Nat × Bool)}
theorem ro_eq {r r' : Ros} (hr : RosOk r) (hr' : RosOk r') (w : World) : (Op.equalIn 10000 92 (RV r) (RV r')).run Tryz.prog w = .ok (decide (r.same r')) w := by
  obtain ⟨b, h1, h2⟩ := run_equalIn_deep (P := Tryz.prog) 9996 4 92 (by kernel_rfl) w 5 5 (RV r) (RV r') (roLit r) (roLit r') ro_formed ro_formed (ro_lits hr) (ro_lits hr')
  rw [show (10000 : Nat) = 9996 + 4 from rfl, h1]
  congr 1
  cases b with
  | true => rw [decide_eq_true (lit_same.1 (h2.1 rfl))]
  | false => rw [decide_eq_false fun e => Bool.false_ne_true (h2.2 (lit_same.2 e))]
theorem y_neR {yt : TypeId} {x y : Operand} {r r' : Ros} (hr : RosOk r) (hr' : RosOk r') (hx : ev R x = RV r) (hy : ev R y = RV r') : Yields Tryz.prog w0 S H ⟨dst, .binOp .neq 92 x y yt, ty, pos, after, gd⟩ R (.bool (!decide (r.same r'))) :=
  y_val fun w => by
    have hg : Tryz.prog.eqGuardType Tryz.prog.depth 92 = false := by kernel_rfl
    simp only [execOp, hx, hy, Sem.run_bind, run_eqGuard_agg w .neq 92 x y _ _ hg, Result.andThen_ok]
    rw [run_neq_struct, ro_eq hr hr', Result.andThen_ok]
    rfl
end
end Go.Proofs.YtnilejkfbcnkkaaGreatDoor.V
end
section
set_option maxRecDepth 100000
set_option maxHeartbeats 1000000
namespace Go.Proofs.YtnilejkfbcnkkaaGreatDoor.V
variable [GlK]
open Go Go.RowKit
attribute [local irreducible] Yields cl blk pur rowc sv exC fo cnt xorb blk0

theorem Geo.dat_inj {g : Geo} (hg : GeoOk g) {n i j : Nat} (hi : i < g.m - 1) (hj : j < g.m - 1) (h : g.dat n i = g.dat n j) : i = j := by
  have hm := hg.m3
  have hp := Geo.par_lt hg n
  have e : ∀ i, i < g.m - 1 → g.dat n i = if g.par n + 1 + i < g.m then g.par n + 1 + i else g.par n + 1 + i - g.m := by
    intro i hi
    unfold Geo.dat
    split
    · exact Nat.mod_eq_of_lt ‹_›
    · rw [Nat.mod_eq_sub_mod (by omega), Nat.mod_eq_of_lt (by omega)]
  rw [e i hi, e j hj] at h
  split at h <;> split at h <;> omega
theorem Geo.dat_sur {g : Geo} (hg : GeoOk g) {n x : Nat} (hx : x < g.m) (hne : x ≠ g.par n) : ∃ i, i < g.m - 1 ∧ g.dat n i = x := by
  have hm := hg.m3
  have hp := Geo.par_lt hg n
  by_cases h : g.par n < x
  · exact ⟨x - g.par n - 1, by omega, by unfold Geo.dat; rw [show g.par n + 1 + (x - g.par n - 1) = x by omega]; exact Nat.mod_eq_of_lt hx⟩
  · exact ⟨x + g.m - g.par n - 1, by omega, by unfold Geo.dat; rw [show g.par n + 1 + (x + g.m - g.par n - 1) = x + g.m by omega, Nat.add_mod_right]; exact Nat.mod_eq_of_lt hx⟩
theorem mem_perm {g : Geo} (hg : GeoOk g) (n : Nat) : (List.range g.m).Perm (g.par n :: datL g n) := by
  have hm := hg.m3
  refine (List.perm_ext_iff_of_nodup List.nodup_range ?_).2 fun x => ?_
  · rw [List.nodup_cons]
    refine ⟨fun h => ?_, ?_⟩
    · obtain ⟨i, hi, e⟩ := List.mem_map.1 (show _ ∈ (List.range (g.m - 1)).map (g.dat n) from h)
      exact Geo.dat_ne hg (List.mem_range.1 hi) e
    · unfold datL
      refine List.pairwise_map.2 (List.Pairwise.imp_of_mem (fun {a b} ha hb hne e => hne (Geo.dat_inj hg (List.mem_range.1 ha) (List.mem_range.1 hb) e)) List.nodup_range)
  · rw [List.mem_range, List.mem_cons]
    constructor
    · intro h
      by_cases e : x = g.par n
      · exact .inl e
      · obtain ⟨i, hi, e⟩ := Geo.dat_sur hg h e
        exact .inr (List.mem_map.2 ⟨i, List.mem_range.2 hi, e⟩)
    · rintro (rfl | h)
      · exact Geo.par_lt hg n
      · obtain ⟨i, hi, e⟩ := List.mem_map.1 (show _ ∈ (List.range (g.m - 1)).map (g.dat n) from h)
        rw [← e]; exact Geo.dat_lt hg n i
/-- a stripe's data, as it is to be -/
def nwD (C : Nat → Nat → Blk) (g : Geo) (n : Nat) (wr : List Bool) (now : List Blk) (i : Nat) : Blk := if wr.getD i false then now.getD i blk0 else C n (g.dat n i)
def nwP (C : Nat → Nat → Blk) (g : Geo) (n : Nat) (wr : List Bool) (now : List Blk) : Blk := foldb ((List.range (g.m - 1)).map (nwD C g n wr now))
def datC (g : Geo) (n : Nat) (wr : List Bool) (now : List Blk) (k : Nat) : List Cel := ((List.range k).filter fun i => wr.getD i false).map fun i => ⟨n, g.dat n i, now.getD i blk0⟩
theorem par_dat {C : Nat → Nat → Blk} {g : Geo} (hg : GeoOk g) {n : Nat} (h : foldb ((List.range g.m).map (C n)) = blk0) : C n (g.par n) = foldb ((List.range (g.m - 1)).map fun i => C n (g.dat n i)) := by
  rw [foldb_perm ((mem_perm hg n).map (C n)), List.map_cons, foldb_cons] at h
  have := xorb_eq h
  rw [this]
  unfold datL
  rw [List.map_map]; rfl
theorem count_all {wr : List Bool} (h : wr.count true = wr.length) {i : Nat} (hi : i < wr.length) : wr.getD i false = true := by
  have := List.count_eq_length.1 h
  rw [List.getD_eq_getElem?_getD, List.getElem?_eq_getElem hi]
  exact (this _ (List.getElem_mem hi)).symm
theorem mem_nds {wr : List Bool} {way i : Nat} : i ∈ nds wr way ↔ ((i < wr.length ∧ ndW wr way i = true) ∨ (way = 4 ∧ i = wr.length)) := by
  unfold nds
  rw [List.mem_append, List.mem_filter, List.mem_range]
  by_cases h : way = 4
  · simp [h]
  · simp [h]
theorem resL_eq {wr : List Bool} {old now : List Blk} (f : Nat → Blk) : ∀ {k : Nat}, (∀ i, i < k → (if wr.getD i false then now.getD i blk0 else old.getD i blk0) = f i) → resL wr old now k = (List.range k).map f
  | 0, _ => rfl
  | k + 1, h => by
    unfold resL
    rw [resL_eq f fun i hi => h i (by omega), h k (by omega), List.range_succ, List.map_append]
    rfl
theorem delL_eq {wr : List Bool} {old now : List Blk} {par : Blk} (f O : Nat → Blk) : ∀ {k : Nat}, (∀ i, i < k → if wr.getD i false then (now.getD i blk0 = f i ∧ old.getD i blk0 = O i) else f i = O i) →
    foldb (delL wr old now par k) = xorb par (xorb (foldb ((List.range k).map O)) (foldb ((List.range k).map f)))
  | 0, _ => by
    unfold delL
    rw [foldb_cons, foldb_nil]
    show xorb par blk0 = xorb par (xorb (foldb []) (foldb []))
    rw [foldb_nil, xorb_self]
  | k + 1, h => by
    unfold delL
    have ih := delL_eq f O (k := k) (par := par) fun i hi => h i (by omega)
    have hk := h k (by omega)
    rw [foldb_app, ih, List.range_succ, List.map_append, List.map_append, foldb_app, foldb_app]
    show _ = xorb par (xorb (xorb _ (foldb [O k])) (xorb _ (foldb [f k])))
    rw [foldb_cons, foldb_cons, foldb_nil, xorb_zero, xorb_zero]
    generalize foldb ((List.range k).map O) = a
    generalize foldb ((List.range k).map f) = b
    cases hw : wr.getD k false with
    | true =>
      rw [hw] at hk
      simp only [if_true] at hk ⊢
      rw [foldb_cons, foldb_cons, foldb_nil, xorb_zero, hk.1, hk.2]
      rw [xorb_assoc par]
      congr 1
      rw [xorb_assoc a b, xorb_assoc a (O k)]
      congr 1
      rw [← xorb_assoc b, xorb_comm b, xorb_assoc]
    | false =>
      rw [hw] at hk
      simp only [Bool.false_eq_true, if_false] at hk ⊢
      rw [foldb_nil, xorb_zero, hk]
      congr 1
      rw [xorb_assoc a (O k)]
      congr 1
      rw [← xorb_assoc, xorb_comm (O k) b, xorb_assoc, xorb_self, xorb_zero]
/-- whichever way, the parity is that of the data as it is to be -/
theorem par_ok {C : Nat → Nat → Blk} {g : Geo} (hg : GeoOk g) {n way : Nat} {wr : List Bool} {now old : List Blk} (h : foldb ((List.range g.m).map (C n)) = blk0) (hwr : wr.length = g.m - 1)
    (hway : (way = 2 ∧ wr.count true = wr.length) ∨ way = 3 ∨ way = 4) (hold : ∀ i ∈ nds wr way, old.getD i blk0 = C n (g.mem n i)) : parOf way wr old now (old.getD (g.m - 1) blk0) (g.m - 1) = nwP C g n wr now := by
  unfold parOf nwP
  rcases hway with ⟨rfl, hc⟩ | rfl | rfl
  · simp only [show ¬ (2 : Nat) = 4 by decide, if_false, if_true]
    rw [resL_eq (nwD C g n wr now)]
    intro i hi
    unfold nwD
    rw [count_all hc (by omega)]
    simp
  · simp only [show ¬ (3 : Nat) = 4 by decide, show ¬ (3 : Nat) = 2 by decide, if_false]
    rw [resL_eq (nwD C g n wr now)]
    intro i hi
    unfold nwD
    cases hw : wr.getD i false with
    | true => rfl
    | false =>
      simp only [Bool.false_eq_true, if_false]
      rw [hold i (mem_nds.2 (.inl ⟨by omega, by unfold ndW; rw [hw]; rfl⟩))]
      unfold Geo.mem
      rw [if_neg (by omega)]
  · simp only [if_true]
    rw [delL_eq (nwD C g n wr now) fun i => C n (g.dat n i)]
    · rw [hold (g.m - 1) (mem_nds.2 (.inr ⟨rfl, hwr.symm⟩))]
      have : g.mem n (g.m - 1) = g.par n := by unfold Geo.mem; rw [if_pos rfl]
      rw [this, par_dat hg h, ← xorb_assoc, xorb_self, zero_xorb]
    · intro i hi
      unfold nwD
      cases hw : wr.getD i false with
      | false => simp
      | true =>
        simp only [if_true]
        refine ⟨trivial, ?_⟩
        rw [hold i (mem_nds.2 (.inl ⟨by omega, by unfold ndW; rw [hw]; rfl⟩))]
        unfold Geo.mem
        rw [if_neg (by omega)]
end Go.Proofs.YtnilejkfbcnkkaaGreatDoor.V
end
