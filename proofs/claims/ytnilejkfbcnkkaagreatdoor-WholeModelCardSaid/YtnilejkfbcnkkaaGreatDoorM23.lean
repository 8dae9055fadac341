/- Proved: what a commit's cells come to, in plain; Commit; what a new array needs; the conditions stand in the statements. -/
import Derived.Test.YtnilejkfbcnkkaaGreatDoorM22
set_option linter.unusedVariables false
set_option linter.unusedSimpArgs false
set_option linter.unusedSectionVars false
section
set_option maxRecDepth 100000
set_option maxHeartbeats 1000000
namespace Go.Proofs.YtnilejkfbcnkkaaGreatDoor.V
variable [GlK]
open Go Go.RowKit
attribute [local irreducible] Yields cl blk pur rowc sv exC fo cnt xorb blk0

/-- which of a stripe's data a member has -/
def Geo.idx (g : Geo) (n m : Nat) : Nat := if g.par n < m then m - g.par n - 1 else m + g.m - g.par n - 1
theorem Geo.idx_dat {g : Geo} (hg : GeoOk g) {n i : Nat} (hi : i < g.m - 1) : g.idx n (g.dat n i) = i := by
  have hm := hg.m3
  have hp := Geo.par_lt hg n
  unfold Geo.idx Geo.dat
  by_cases h : g.par n + 1 + i < g.m
  · rw [Nat.mod_eq_of_lt h, if_pos (by omega)]; omega
  · rw [Nat.mod_eq_sub_mod (by omega), Nat.mod_eq_of_lt (by omega), if_neg (by omega)]; omega
/-- the cells behind writes -/
def nwC (C : Nat → Nat → Blk) (g : Geo) (ws : List (Nat × Blk)) (n m : Nat) : Blk :=
  if n < g.s ∧ m < g.m then (if m = g.par n then nwP C g n (wrL g ws n) (nwL g ws n) else (lastO ws (n * (g.m - 1) + g.idx n m)).getD (C n m)) else C n m
section
variable {C : Nat → Nat → Blk} {g : Geo} {ws : List (Nat × Blk)} {n i : Nat}
theorem wrL_get (hi : i < g.m - 1) : (wrL g ws n).getD i false = (lastO ws (n * (g.m - 1) + i)).isSome := by
  unfold wrL
  rw [List.getD_eq_getElem?_getD, List.getElem?_map, List.getElem?_range hi]; rfl
theorem nwL_get (hi : i < g.m - 1) : (nwL g ws n).getD i blk0 = (lastO ws (n * (g.m - 1) + i)).getD blk0 := by
  unfold nwL
  rw [List.getD_eq_getElem?_getD, List.getElem?_map, List.getElem?_range hi]; rfl
theorem nwD_eq (hi : i < g.m - 1) : nwD C g n (wrL g ws n) (nwL g ws n) i = (lastO ws (n * (g.m - 1) + i)).getD (C n (g.dat n i)) := by
  unfold nwD
  rw [wrL_get hi, nwL_get hi]
  cases lastO ws (n * (g.m - 1) + i) <;> rfl
theorem nwC_dat (hg : GeoOk g) (hn : n < g.s) (hi : i < g.m - 1) : nwC C g ws n (g.dat n i) = (lastO ws (n * (g.m - 1) + i)).getD (C n (g.dat n i)) := by
  unfold nwC
  rw [if_pos ⟨hn, Geo.dat_lt hg n i⟩, if_neg (Geo.dat_ne hg hi), Geo.idx_dat hg hi]
theorem nwC_par (hg : GeoOk g) (hn : n < g.s) : nwC C g ws n (g.par n) = nwP C g n (wrL g ws n) (nwL g ws n) := by
  unfold nwC
  rw [if_pos ⟨hn, Geo.par_lt hg n⟩, if_pos rfl]
theorem nwC_cx (hg : GeoOk g) : CX (nwC C g ws) g := by
  intro n hn
  rw [foldb_perm ((mem_perm hg n).map _), List.map_cons, foldb_cons, nwC_par hg hn]
  have e : (datL g n).map (nwC C g ws n) = (List.range (g.m - 1)).map (nwD C g n (wrL g ws n) (nwL g ws n)) := by
    unfold datL
    rw [List.map_map]
    refine List.map_congr_left fun i hi => ?_
    have hi := List.mem_range.1 hi
    show nwC C g ws n (g.dat n i) = _
    rw [nwC_dat hg hn hi, nwD_eq hi]
  rw [e]
  exact xorb_self _
theorem nwC_cell (hg : GeoOk g) {b : Nat} (hb : b < g.blocks) : g.cell (nwC C g ws) b = (lastO ws b).getD (g.cell C b) := by
  have hm := hg.m3
  unfold Geo.cell
  have hn : b / (g.m - 1) < g.s := Nat.div_lt_of_lt_mul (by unfold Geo.blocks at hb; rw [Nat.mul_comm]; exact hb)
  rw [nwC_dat hg hn (Nat.mod_lt _ (by omega))]
  have : b / (g.m - 1) * (g.m - 1) + b % (g.m - 1) = b := by rw [Nat.mul_comm]; exact Nat.div_add_mod b (g.m - 1)
  rw [this]
/-- a stripe that no write touches stays -/
theorem nwC_not (hg : GeoOk g) (hc : CX C g) {m : Nat} (h : ∀ w ∈ ws, w.1 / (g.m - 1) ≠ n) : nwC C g ws n m = C n m := by
  have hm := hg.m3
  have hl : ∀ i, i < g.m - 1 → lastO ws (n * (g.m - 1) + i) = none := fun i hi => lastO_none fun w hw e => h w hw ((blk_at (by omega) hi).1 e).1
  unfold nwC
  by_cases hnm : n < g.s ∧ m < g.m
  · rw [if_pos hnm]
    by_cases hp : m = g.par n
    · rw [if_pos hp, hp, par_dat hg (hc n hnm.1)]
      unfold nwP
      congr 1
      refine List.map_congr_left fun i hi => ?_
      have hi := List.mem_range.1 hi
      rw [nwD_eq hi, hl i hi]; rfl
    · rw [if_neg hp]
      obtain ⟨i, hi, e⟩ := Geo.dat_sur hg hnm.2 hp
      rw [← e, Geo.idx_dat hg hi, hl i hi]; rfl
  · rw [if_neg hnm]
theorem mem_datC {x : Cel} {wr : List Bool} {now : List Blk} {k : Nat} : x ∈ datC g n wr now k ↔ ∃ i, i < k ∧ wr.getD i false = true ∧ x = ⟨n, g.dat n i, now.getD i blk0⟩ := by
  unfold datC
  rw [List.mem_map]
  constructor
  · rintro ⟨i, hi, rfl⟩
    obtain ⟨h1, h2⟩ := List.mem_filter.1 hi
    exact ⟨i, List.mem_range.1 h1, h2, rfl⟩
  · rintro ⟨i, h1, h2, rfl⟩
    exact ⟨i, List.mem_filter.2 ⟨List.mem_range.2 h1, h2⟩, rfl⟩
/-- cells of some stripes, as a commit writes them -/
structure CmI (C : Nat → Nat → Blk) (g : Geo) (ws : List (Nat × Blk)) (r : Ros) (ks : List Nat) (cs : List Cel) : Prop where
  cin : ∀ x ∈ cs, x.s < g.s ∧ x.m < g.m ∧ x.s ∈ ks
  to : ∀ x ∈ cs, x.b = nwC C g ws x.s x.m
  all : ∀ k ∈ ks, ∀ i, i < g.m - 1 → (lastO ws (k * (g.m - 1) + i)).isSome = true → inAt cs k (g.dat k i) = true
  pa : ∀ k ∈ ks, inAt cs k (g.par k) = false → r.has (g.par k) k = false
  len : ∃ bs : List Nat, bs.Nodup ∧ (∀ b ∈ bs, (∃ w ∈ ws, w.1 = b) ∧ b / (g.m - 1) ∈ ks) ∧ cs.length ≤ bs.length + ks.length
theorem CmI.nil {r : Ros} : CmI C g ws r [] [] := ⟨(fun x h => by cases h), (fun x h => by cases h), (fun k h => by cases h), (fun k h => by cases h), ⟨[], List.nodup_nil, (fun b h => by cases h), Nat.le_refl _⟩⟩
theorem CmI.snoc {r r' : Ros} {ks : List Nat} {cs ds : List Cel} {k : Nat} (hg : GeoOk g) (h : CmI C g ws r ks cs) (hk : k ∉ ks) (hks : k < g.s) (hr : ∀ n, r.has (g.par n) n = false → r'.has (g.par n) n = false) (q : CelR C g k (wrL g ws k) (nwL g ws k) r' ds) :
    CmI C g ws r' (ks ++ [k]) (cs ++ ds) := by
  have hm := hg.m3
  have hmem : ∀ x ∈ ds, (∃ i, i < g.m - 1 ∧ (lastO ws (k * (g.m - 1) + i)).isSome = true ∧ x = ⟨k, g.dat k i, (lastO ws (k * (g.m - 1) + i)).getD blk0⟩) ∨ x = ⟨k, g.par k, nwP C g k (wrL g ws k) (nwL g ws k)⟩ := by
    intro x hx
    have hd : ∀ x ∈ datC g k (wrL g ws k) (nwL g ws k) (g.m - 1), ∃ i, i < g.m - 1 ∧ (lastO ws (k * (g.m - 1) + i)).isSome = true ∧ x = ⟨k, g.dat k i, (lastO ws (k * (g.m - 1) + i)).getD blk0⟩ := by
      intro x hx
      obtain ⟨i, h1, h2, rfl⟩ := mem_datC.1 hx
      exact ⟨i, h1, by rw [← wrL_get h1]; exact h2, by rw [nwL_get h1]⟩
    rcases q with ⟨rfl, _⟩ | rfl
    · exact .inl (hd x hx)
    · rcases List.mem_append.1 hx with hx | hx
      · exact .inl (hd x hx)
      · exact .inr (List.mem_singleton.1 hx)
  have hdin : ∀ i, i < g.m - 1 → (lastO ws (k * (g.m - 1) + i)).isSome = true → ∃ x ∈ ds, x.s = k ∧ x.m = g.dat k i := by
    intro i hi hs
    have : (⟨k, g.dat k i, (nwL g ws k).getD i blk0⟩ : Cel) ∈ datC g k (wrL g ws k) (nwL g ws k) (g.m - 1) := mem_datC.2 ⟨i, hi, by rw [wrL_get hi]; exact hs, rfl⟩
    rcases q with ⟨rfl, _⟩ | rfl
    · exact ⟨_, this, rfl, rfl⟩
    · exact ⟨_, List.mem_append_left _ this, rfl, rfl⟩
  have happ : ∀ n m, inAt (cs ++ ds) n m = (inAt cs n m || inAt ds n m) := fun n m => by simp [inAt]
  refine ⟨fun x hx => ?_, fun x hx => ?_, fun n hn i hi hs => ?_, fun n hn hp => ?_, ?_⟩
  · rcases List.mem_append.1 hx with hx | hx
    · obtain ⟨h1, h2, h3⟩ := h.cin x hx
      exact ⟨h1, h2, List.mem_append_left _ h3⟩
    · rcases hmem x hx with ⟨i, _, _, rfl⟩ | rfl
      · exact ⟨hks, Geo.dat_lt hg k i, by simp⟩
      · exact ⟨hks, Geo.par_lt hg k, by simp⟩
  · rcases List.mem_append.1 hx with hx | hx
    · exact h.to x hx
    · rcases hmem x hx with ⟨i, hi, hs, rfl⟩ | rfl
      · show _ = nwC C g ws k (g.dat k i)
        rw [nwC_dat hg hks hi]
        cases e : lastO ws (k * (g.m - 1) + i) with
        | none => rw [e] at hs; cases hs
        | some x => rfl
      · exact (nwC_par hg hks).symm
  · rw [happ, Bool.or_eq_true]
    rcases List.mem_append.1 hn with hn | hn
    · exact .inl (h.all n hn i hi hs)
    · rw [List.mem_singleton.1 hn] at hs ⊢
      exact .inr (inAt_iff.2 (hdin i hi hs))
  · rw [happ, Bool.or_eq_false_iff] at hp
    rcases List.mem_append.1 hn with hn | hn
    · exact hr n (h.pa n hn hp.1)
    · rw [List.mem_singleton.1 hn] at hp ⊢
      rcases q with ⟨_, e⟩ | rfl
      · exact e
      · have : inAt (datC g k (wrL g ws k) (nwL g ws k) (g.m - 1) ++ [⟨k, g.par k, nwP C g k (wrL g ws k) (nwL g ws k)⟩]) k (g.par k) = true := inAt_iff.2 ⟨_, List.mem_append_right _ (List.mem_singleton.2 rfl), rfl, rfl⟩
        rw [this] at hp; cases hp.2
  · obtain ⟨bs, h1, h2, h3⟩ := h.len
    refine ⟨bs ++ ((List.range (g.m - 1)).filter fun i => (wrL g ws k).getD i false).map fun i => k * (g.m - 1) + i, ?_, fun b hb => ?_, ?_⟩
    · rw [List.nodup_append]
      refine ⟨h1, ?_, fun x hx y hy => ?_⟩
      · refine List.pairwise_map.2 (List.Pairwise.imp (fun {a b} hne e => hne (by omega)) (List.nodup_range.filter _))
      · obtain ⟨i, hi, rfl⟩ := List.mem_map.1 hy
        have hi := List.mem_range.1 (List.mem_filter.1 hi).1
        rintro rfl
        have := (h2 _ hx).2
        rw [((blk_at (by omega) hi).1 rfl).1] at this
        exact hk this
    · rcases List.mem_append.1 hb with hb | hb
      · exact ⟨(h2 b hb).1, List.mem_append_left _ (h2 b hb).2⟩
      · obtain ⟨i, hi, rfl⟩ := List.mem_map.1 hb
        obtain ⟨hi1, hi2⟩ := List.mem_filter.1 hi
        have hi1 := List.mem_range.1 hi1
        rw [wrL_get hi1] at hi2
        obtain ⟨x, hx⟩ := Option.isSome_iff_exists.1 hi2
        refine ⟨lastO_some hx, ?_⟩
        rw [((blk_at (by omega) hi1).1 rfl).1]
        simp
    · have hdl : (datC g k (wrL g ws k) (nwL g ws k) (g.m - 1)).length = (((List.range (g.m - 1)).filter fun i => (wrL g ws k).getD i false).map fun i => k * (g.m - 1) + i).length := by
        unfold datC; rw [List.length_map, List.length_map]
      have hds : ds.length ≤ (datC g k (wrL g ws k) (nwL g ws k) (g.m - 1)).length + 1 := by
        rcases q with ⟨rfl, _⟩ | rfl
        · omega
        · rw [List.length_append]; simp
      rw [List.length_append, List.length_append, List.length_append, ← hdl]
      show _ ≤ _ + (ks.length + 1)
      omega
/-- all a commit's cells -/
theorem CmI.wr {r : Ros} {ks : List Nat} {cs : List Cel} (hg : GeoOk g) (hc : CX C g) (h : CmI C g ws r ks cs) (hks : ∀ k, k ∈ ks ↔ ∃ w ∈ ws, w.1 / (g.m - 1) = k) : Wr g C (nwC C g ws) r cs := by
  have hm := hg.m3
  refine ⟨nwC_cx hg, fun x hx => ⟨(h.cin x hx).1, (h.cin x hx).2.1⟩, h.to, fun n m ha ho => ?_, fun n hn hp => ?_⟩
  · by_cases hk : n ∈ ks
    · unfold nwC
      by_cases hnm : n < g.s ∧ m < g.m
      · rw [if_pos hnm]
        by_cases hp : m = g.par n
        · exfalso
          rcases ho with ho | ho
          · exact ho hp
          · obtain ⟨w, hw, e⟩ := (hks n).1 hk
            have hi : w.1 % (g.m - 1) < g.m - 1 := Nat.mod_lt _ (by omega)
            have := h.all n hk (w.1 % (g.m - 1)) hi (lastO_is ⟨w, hw, (blk_at (by omega) hi).2 ⟨e, rfl⟩⟩)
            obtain ⟨x, hx, e1, _⟩ := inAt_iff.1 this
            rw [inC_iff.2 ⟨x, hx, e1⟩] at ho; cases ho
        · rw [if_neg hp]
          obtain ⟨i, hi, e⟩ := Geo.dat_sur hg hnm.2 hp
          rw [← e, Geo.idx_dat hg hi]
          cases e2 : lastO ws (n * (g.m - 1) + i) with
          | none => rfl
          | some x =>
            have := h.all n hk i hi (by rw [e2]; rfl)
            rw [e, ha] at this; cases this
      · rw [if_neg hnm]
    · exact nwC_not hg hc fun w hw e => hk ((hks n).2 ⟨w, hw, e⟩)
  · obtain ⟨x, hx, e⟩ := inC_iff.1 hn
    exact h.pa n (e ▸ (h.cin x hx).2.2) hp
theorem CmI.len32 {r : Ros} {ks : List Nat} {cs : List Cel} (h : CmI C g ws r ks cs) (hw : ws.length ≤ 16) (hk : ks.length ≤ 16) : cs.length ≤ 32 := by
  obtain ⟨bs, h1, h2, h3⟩ := h.len
  have : bs.length ≤ (ws.map Prod.fst).length := nodup_le h1 fun b hb => by obtain ⟨w, hw, e⟩ := (h2 b hb).1; exact List.mem_map.2 ⟨w, hw, e⟩
  rw [List.length_map] at this
  omega
end
end Go.Proofs.YtnilejkfbcnkkaaGreatDoor.V
end
section
set_option maxRecDepth 100000
set_option maxHeartbeats 2000000
namespace Go.Proofs.YtnilejkfbcnkkaaGreatDoor.V
variable [GlK]
open Go Go.RowKit
attribute [local irreducible] Yields cl blk pur rowc sv exC fo cnt xorb blk0

section
variable {gv gh gb gs : Nat} {C : Nat → Nat → Blk} {V : Vlt}
/-- what a commit comes to -/
def CmtQ (C : Nat → Nat → Blk) (ws : List (Nat × Blk)) (V V' : Vlt) (v : Value) : Prop :=
  (v = I 0 ∧ V'.h.r.state ≠ 5 ∧ ∃ C', VS C C' 90000000 V V' ∧ ∀ b, b < V.h.r.g.blocks → V.h.r.g.cell C' b = (lastO ws b).getD (V.h.r.g.cell C b)) ∨
  (VS C C 90000000 V V' ∧ ((v = I 16 ∧ V'.h.r.state = 5) ∨ (v = I 13 ∧ V'.l = none)))
theorem f51 {ws : List (Nat × Blk)} {a : Option Addr} {c : Nat} (k : VK C V) (hk : V.b.k < 1099000000000) (hws : ws.length ≤ 16) (hin : ∀ w ∈ ws, w.1 < V.h.r.g.blocks) :
    Ct Tryz.prog 51 [PP gv, .slice a ws.length c] (VtM gv gh gb gs V ++ [sv eWt 53 ws a c]) (fun v L => ∃ V' : Vlt, L = VtM gv gh gb gs V' ++ [sv eWt 53 ws a c] ∧ CmtQ C ws V V' v) := by
  have hg := k.g
  have hm3 := hg.m3
  have hm16 := hg.m16
  have h73 := f73v (gv := gv) (gh := gh) (gb := gb) (gs := gs) k
  have h75 := f75 (gv := gv) (gh := gh) (gb := gb) (gs := gs) (l := lgV V.l) (h := V.h)
  have h93 := f93v (gv := gv) (gh := gh) (gb := gb) (gs := gs) k.hb.ok
  refine w_ct Tryz.func51 rfl Tryz.ntmps51 rfl fun w B => ?_
  refine W1 fun ge => ?_
  refine cv h73 ?_
  refine W ?_
  refine w_mm (fun x : Nat => I x) rfl fun gm => ?_
  refine W ?_
  refine w_loop (γ := Nat × List (Nat × Nat)) (fun ⟨j, m⟩ => [(0, PP gv), (1, .slice a ws.length c), (4, PP ge), (6, .map (some gm)), (24, .slice a ws.length c), (25, I ws.length), (26, I j)])
    (fun ⟨j, m⟩ => VtM gv gh gb gs V ++ [sv eWt 53 ws a c, cl ge [I 0] 39, mpC (fun x : Nat => I x) gm m]) (fun ⟨j, m⟩ => j ≤ ws.length ∧ m.length ≤ j ∧ ∀ b, (lkp m b).getD 0 ≤ j) (fun x => ws.length - x.1) (0, []) sl_ ent_
    ⟨Nat.zero_le _, Nat.le_refl _, fun _ => Nat.le_refl _⟩ fun ⟨j, m⟩ B ⟨hj, hml, hcb⟩ => ?_
  dsimp only at hj hml hcb ⊢
  refine W ?_
  refine w_if rfl (fun h' => ?_) (fun h' => ?_)
  · have hlt : j < ws.length := by omega
    have h74 := f74 hg (hin ws[j] (List.getElem_mem hlt))
    refine w_skip ?_
    refine g_svp rfl (sel_ : Sel (sv eWt 53 ws a c) _ _) (by omega) fun ga hga => ?_
    subst hga
    refine W1 fun g8 => ?_
    refine w_dag [.q 0, .q 1, .q 2, .q 3, .q 4, .q 5, .q 6, .q 7, .f 8, .a 8, .m 9 [7], .q 10] (by decide +kernel) ?_
    refine W ?_
    refine dq h75 ?_
    refine W ?_
    refine dq h74 ?_
    refine W ?_
    refine W1 fun g9 => ?_
    refine w_y rfl rfl rfl (y_lk0 rfl rfl mem_) ?_
    have eo : optV (fun x : Nat => I x) (.int .i64 0) (lkp m ws[j].1) = I ((lkp m ws[j].1).getD 0) := by cases lkp m ws[j].1 <;> rfl
    rw [eo]
    have hcb2 := hcb ws[j].1
    refine W ?_
    rw [show (((lkp m ws[j].1).getD 0 : Nat) : Int) + 1 = (((lkp m ws[j].1).getD 0 + 1 : Nat) : Int) by omega]
    refine w_mu (a := (lkp m ws[j].1).getD 0 + 1) (v := I ((lkp m ws[j].1).getD 0 + 1 : Nat)) rfl rfl rfl rfl upd_ ?_
    refine W ?_
    have hpl : (putL m ws[j].1 ((lkp m ws[j].1).getD 0 + 1)).length ≤ j + 1 := by
      unfold putL; split
      · rw [List.length_map]; omega
      · rw [List.length_append]; simp; omega
    exact w_land rfl (w_round (j + 1, putL m ws[j].1 ((lkp m ws[j].1).getD 0 + 1)) ⟨hlt, hpl, fun b => by rw [lkp_putL]; split; (· show (lkp m ws[j].1).getD 0 + 1 ≤ j + 1; omega); (· have := hcb b; omega)⟩ (by show ws.length - (j + 1) < ws.length - j; omega) sl_ (Ent.sel sel_ (Ent.sel sel_ (Ent.sel sel_ (Ent.sel sel_ (Ent.sel sel_ (Ent.sel sel_ (Ent.trans (Ent.sel (sel_ : Sel (rowc eWt 53 ws ga c) _ _) (.refl _)) (ent_sv ent_)))))))))
  · have hjj : j = ws.length := by omega
    subst hjj
    refine W ?_
    refine w_y rfl rfl rfl (y_ml rfl mem_) ?_
    refine W ?_
    rw [decide_eq_false (show ¬ ((16 : Int) < m.length) by omega)]
    refine W ?_
    refine w_dfr rfl rfl ?_
    refine W ?_
    refine clP h93 (fun v M hq => ?_) (fun v M hq => ?_)
    · obtain ⟨rfl, (⟨e, h5, hl⟩ | ⟨e, h5⟩ | ⟨e, h5⟩)⟩ := hq
      · cases e
        refine W ?_
        by_cases hw0 : ws.length = 0
        · rw [decide_eq_true (show ((ws.length : Nat) : Int) = 0 by omega)]
          refine W ?_
          refine fin_dret f76r rfl Pick.nil ?_
          rintro _ rfl
          have hwn : ws = [] := List.eq_nil_of_length_eq_zero hw0
          exact fin ⟨_, rfl, V, rfl, .inl ⟨rfl, h5, C, VS.refl k, fun b hb => by rw [hwn]; rfl⟩⟩
        · rw [decide_eq_false (show ¬ ((ws.length : Nat) : Int) = 0 by omega)]
          have h94 := f94 (gv := gv) (gh := gh) (gb := gb) (gs := gs) (l := lgV V.l) (h := V.h) (ws := ws) (a := a) (c := c) k.hb.ok hws hin
          refine W ?_
          refine cl' h94 ?_
          rintro _ _ ⟨Q, ks, a', c', rfl, hnd, hkl, hks, rfl⟩
          refine W ?_
          refine g_nil eNat 3 rfl ?_
          refine w_loop (γ := Nat × Option Addr × Nat) (fun ⟨i, a2, c2⟩ => [(0, PP gv), (4, PP ge), (11, .slice a' ks.length c'), (12, .slice a2 i c2), (59, .slice a' ks.length c'), (60, I ks.length), (61, I i)])
            (fun ⟨i, a2, c2⟩ => VtM gv gh gb gs V ++ [sv eWt 53 ws a c, cl ge [I 0] 39, sv (eStq V.h.r.g Q) 147 ks a' c', ChsC ks (rwG V.h.r.g Q ws), sv eNat 3 (ks.take i) a2 c2]) (fun ⟨i, a2, c2⟩ => i ≤ ks.length) (fun x => ks.length - x.1) (0, none, 0) sl_ ent_
            (Nat.zero_le _) fun ⟨i, a2, c2⟩ B hi => ?_
          dsimp only at hi ⊢
          refine W ?_
          refine w_if rfl (fun h'' => ?_) (fun h'' => ?_)
          · have hlt : i < ks.length := by omega
            refine w_skip ?_
            refine g_svp rfl (sel_ : Sel (sv (eStq V.h.r.g Q) 147 ks a' c') _ _) (by omega) fun ga hga => ?_
            subst hga
            refine W1 fun g14 => ?_
            refine w_bs1 eNat ks[i] rfl rfl rfl (by decide) fun gt => ?_
            refine W ?_
            refine w_ap eNat (sel_ : Sel (sv eNat 3 _ a2 c2) _ _) (rd_row (show rowc eNat 3 [ks[i]] gt 1 ∈ _ from mem_)) (by simp; omega) (by simp; omega) (hn0 := by simp; omega) fun a3 c3 => ?_
            have e1 : ks.take i ++ [ks[i]] = ks.take (i + 1) := (List.take_succ_eq_append_getElem hlt).symm
            have e2 : (ks.take (i + 1)).length = i + 1 := by rw [List.length_take]; omega
            rw [e1, e2]
            refine W ?_
            exact w_land rfl (w_round (i + 1, a3, c3) (by show i + 1 ≤ ks.length; omega) (by show ks.length - (i + 1) < ks.length - i; omega) sl_ (Ent.sel sel_ (Ent.sel sel_ (Ent.sel sel_ (Ent.sel sel_ (Ent.sel sel_ (Ent.sel sel_ (Ent.sel sel_ (Ent.sel sel_ (Ent.trans (Ent.sel (sel_ : Sel (rowc (eStq V.h.r.g Q) 147 ks ga c') _ _) (.refl _)) (ent_sv ent_)))))))))))
          · have hii : i = ks.length := by omega
            subst hii
            rw [List.take_length]
            have hcp : cpl (srt ks) ≤ 20 := Nat.le_trans (cpl_le (D := ks) fun x h => h) (by omega)
            have h95 := f95 (gv := gv) (gh := gh) (gb := gb) (gs := gs) (st := ks) (a := a2) (c := c2) k h5 hl (by omega) (by omega) hcp
            refine W ?_
            refine clP h95 (fun v M hq => ?_) (fun v M hq => ?_)
            · obtain ⟨V1, hv1, rfl, (⟨e, h6, h7⟩ | ⟨e, h6⟩ | ⟨e, h6⟩), hfit⟩ := hq
              · cases e
                have hg1 : V1.h.r.g = V.h.r.g := hv1.mv.g
                have hk1 := hv1.k
                refine W ?_
                refine g_nil eCel 163 rfl ?_
                refine w_loop (γ := Nat × Vlt × List Cel × Option Addr × Nat) (fun ⟨i, V2, cs, a3, c3⟩ => [(0, PP gv), (4, PP ge), (11, .slice a' ks.length c'), (15, .slice a3 cs.length c3), (74, .slice a' ks.length c'), (75, I ks.length), (76, I i)])
                  (fun ⟨i, V2, cs, a3, c3⟩ => VtM gv gh gb gs V2 ++ [sv eWt 53 ws a c, cl ge [I 0] 39, sv (eStq V.h.r.g Q) 147 ks a' c', ChsC ks (rwG V.h.r.g Q ws), sv eCel 163 cs a3 c3])
                  (fun ⟨i, V2, cs, a3, c3⟩ => i ≤ ks.length ∧ VS C C (600000 * i) V1 V2 ∧ V2.l = V1.l ∧ V2.h.r.state ≠ 5 ∧ CmI C V.h.r.g ws V2.h.r (ks.take i) cs) (fun x => ks.length - x.1) (0, V1, [], none, 0) sl_ ent_
                  ⟨Nat.zero_le _, VS.refl hv1.ok, rfl, h6, CmI.nil⟩ fun ⟨i, V2, cs, a3, c3⟩ B ⟨hi, hv2, hl2, h52, hcm⟩ => ?_
                dsimp only at hi hv2 hl2 h52 hcm ⊢
                have hg2 : V2.h.r.g = V.h.r.g := hv2.mv.g.trans hg1
                have hk2 := hv2.k
                have hcl := hcm.len32 hws (by rw [List.length_take]; omega)
                refine W ?_
                refine w_if rfl (fun h'' => ?_) (fun h'' => ?_)
                · have hlt : i < ks.length := by omega
                  have hki : ks[i] ∈ ks := List.getElem_mem hlt
                  have hkni : ks[i] ∉ ks.take i := by
                    intro hm
                    have h1 := hnd
                    rw [← List.take_append_drop i ks, List.nodup_append] at h1
                    exact h1.2.2 _ hm _ (show ks[i] ∈ ks.drop i from by rw [List.drop_eq_getElem_cons hlt]; exact List.mem_cons_self) rfl
                  have hkS : ks[i] < V.h.r.g.s := by
                    obtain ⟨w, hw, e⟩ := (hks _).1 hki
                    rw [← e]
                    exact Nat.div_lt_of_lt_mul (by have := hin w hw; unfold Geo.blocks at this; rw [Nat.mul_comm]; exact this)
                  have hcnt : 0 < (wrL V.h.r.g ws ks[i]).count true := by
                    obtain ⟨w, hw, e⟩ := (hks _).1 hki
                    refine List.count_pos_iff.2 ?_
                    have hlo := lastO_is (p := ws) (b := w.1) ⟨w, hw, rfl⟩
                    unfold wrL
                    refine List.mem_map.2 ⟨w.1 % (V.h.r.g.m - 1), List.mem_range.2 (Nat.mod_lt _ (by omega)), ?_⟩
                    rw [← e, show w.1 / (V.h.r.g.m - 1) * (V.h.r.g.m - 1) + w.1 % (V.h.r.g.m - 1) = w.1 by rw [Nat.mul_comm]; exact Nat.div_add_mod _ _]
                    exact hlo
                  have h96 := f96 (gv := gv) (gh := gh) (gb := gb) (gs := gs) (n := ks[i]) (ad := (Q ks[i]).d) (aw := (Q ks[i]).w) (an := (Q ks[i]).n) (wr := wrL V.h.r.g ws ks[i]) (now := nwL V.h.r.g ws ks[i]) hv2.ok h52 (by omega) (by rw [hg2]; exact hkS) (by rw [hg2]; exact wrL_len) (by rw [hg2]; exact nwL_len) hcnt
                  rw [hg2] at h96
                  refine w_skip ?_
                  refine g_svp rfl (sel_ : Sel (sv (eStq V.h.r.g Q) 147 ks a' c') _ _) (by omega) fun ga hga => ?_
                  subst hga
                  refine g_ent rfl (Ent.trans (Ent.sel (sel_ : Sel (ChsC ks (rwG V.h.r.g Q ws)) _ _) (.refl _)) (chs_out hki)) ?_
                  refine W1 fun g17 => ?_
                  refine clP h96 (fun v M hq => ?_) (fun v M hq => ?_)
                  · obtain ⟨V3, hv3, hl3, (⟨h53, ds, a4, c4, e, rfl, hcr⟩ | ⟨e, h53, rfl⟩)⟩ := hq
                    · cases e
                      have hcm3 : CmI C V.h.r.g ws V3.h.r (ks.take (i + 1)) (cs ++ ds) := by
                        rw [List.take_succ_eq_append_getElem hlt]
                        exact hcm.snoc hg hkni hkS (fun n hn => hv3.mv.has _ _ (by have := Geo.par_lt hg n; omega) hn) hcr
                      have hcl3 := hcm3.len32 hws (by rw [List.length_take]; omega)
                      rw [List.length_append] at hcl3
                      refine W ?_
                      refine w_ap eCel (sel_ : Sel (sv eCel 163 cs a3 c3) _ _) (rd_sv (show sv eCel 163 ds a4 c4 ∈ _ from mem_)) (by omega) (by omega) fun a5 c5 => ?_
                      refine W ?_
                      refine w_land rfl (w_round (i + 1, V3, cs ++ ds, a5, c5) ⟨hlt, (hv2.trans hv3).mono (by omega), hl3.trans hl2, h53, hcm3⟩ (by show ks.length - (i + 1) < ks.length - i; omega) sl_ ?_)
                      show Ent _ [_, _, _, _, _, _, _, _, _, _, _]
                      iterate 8 refine Ent.sel sel_ ?_
                      refine Ent.trans (Ent.sel (sel_ : Sel (rowc (eStq V.h.r.g Q) 147 ks ga c') _ _) (.refl _)) (ent_sv (Ent.sel sel_ ?_))
                      refine Ent.trans ?_ (chs_in (G := rwG V.h.r.g Q ws) hki hnd fun x hx => rfl)
                      exact ent_
                    · cases e
                  · obtain ⟨V3, hv3, hl3, (⟨h53, ds, a4, c4, e, rfl, hcr⟩ | ⟨e, h53, rfl⟩)⟩ := hq
                    · cases e
                    · cases e
                      have hvx := (hv1.trans hv2).trans hv3
                      refine w_pan ?_
                      refine fin_dpan (f76p (gv := gv) (gh := gh) (gb := gb) (gs := gs) (ge := ge) (l := lgV V3.l) (e := 16) (e0 := 0) (by decide)) rfl pick_ ?_
                      rintro _ rfl
                      exact finE ⟨_, rfl, V3, rfl, .inr ⟨hvx.mono (by omega), .inl ⟨rfl, h53⟩⟩⟩ ent_
                · have hii : i = ks.length := by omega
                  subst hii
                  rw [List.take_length] at hcm
                  have hwr := hcm.wr hg k.cx hks
                  have hne : 1 ≤ cs.length := by
                    have : ∃ w, w ∈ ws := by
                      cases ws with
                      | nil => exact absurd rfl hw0
                      | cons w _ => exact ⟨w, by simp⟩
                    obtain ⟨w, hw⟩ := this
                    have hi : w.1 % (V.h.r.g.m - 1) < V.h.r.g.m - 1 := Nat.mod_lt _ (by omega)
                    have := hcm.all (w.1 / (V.h.r.g.m - 1)) ((hks _).2 ⟨w, hw, rfl⟩) (w.1 % (V.h.r.g.m - 1)) hi (lastO_is ⟨w, hw, by rw [Nat.mul_comm]; exact (Nat.div_add_mod _ _).symm⟩)
                    obtain ⟨x, hx, _⟩ := inAt_iff.1 this
                    exact List.length_pos_of_mem hx
                  have hcp2 : cpl (srt (cs.map Cel.s)) ≤ 20 := Nat.le_trans (cpl_le (D := ks) fun x h => by obtain ⟨y, hy, e⟩ := List.mem_map.1 h; exact e ▸ (hcm.cin y hy).2.2) (by omega)
                  have h97 := f97 (gv := gv) (gh := gh) (gb := gb) (gs := gs) (C := C) (C' := nwC C V.h.r.g ws) (cs := cs) (a := a3) (cc := c3) hv2.ok h52 (by rw [hl2]; exact h7) (by omega) hne hcl (by rw [hg2]; exact hwr) hcp2
                  refine W ?_
                  refine clP h97 (fun v M hq => ?_) (fun v M hq => ?_)
                  · obtain ⟨V3, rfl, (⟨e, hv3, h53⟩ | ⟨hv3, (⟨e, h53⟩ | ⟨e, h53⟩)⟩)⟩ := hq
                    · cases e
                      have hvx := (hv1.trans hv2).trans hv3
                      refine W ?_
                      refine fin_dret f76r rfl Pick.nil ?_
                      rintro _ rfl
                      exact finE ⟨_, rfl, V3, rfl, .inl ⟨rfl, h53, nwC C V.h.r.g ws, hvx.mono (by omega), fun b hb => nwC_cell hg hb⟩⟩ ent_
                    · cases e
                    · cases e
                  · obtain ⟨V3, rfl, (⟨e, hv3, h53⟩ | ⟨hv3, (⟨e, h53⟩ | ⟨e, h53⟩)⟩)⟩ := hq
                    · cases e
                    · cases e
                      have hvx := (hv1.trans hv2).trans hv3
                      refine w_pan ?_
                      refine fin_dpan (f76p (gv := gv) (gh := gh) (gb := gb) (gs := gs) (ge := ge) (l := lgV V3.l) (e := 16) (e0 := 0) (by decide)) rfl pick_ ?_
                      rintro _ rfl
                      exact finE ⟨_, rfl, V3, rfl, .inr ⟨hvx.mono (by omega), .inl ⟨rfl, h53⟩⟩⟩ ent_
                    · cases e
                      have hvx := (hv1.trans hv2).trans hv3
                      refine w_pan ?_
                      refine fin_dpan (f76p (gv := gv) (gh := gh) (gb := gb) (gs := gs) (ge := ge) (l := lgV V3.l) (e := 13) (e0 := 0) (by decide)) rfl pick_ ?_
                      rintro _ rfl
                      exact finE ⟨_, rfl, V3, rfl, .inr ⟨hvx.mono (by omega), .inr ⟨rfl, h53⟩⟩⟩ ent_
              · cases e
              · cases e
            · obtain ⟨V1, hv1, rfl, (⟨e, h6, h7⟩ | ⟨e, h6⟩ | ⟨e, h6⟩), hfit⟩ := hq
              · cases e
              · cases e
                refine w_pan ?_
                refine fin_dpan (f76p (gv := gv) (gh := gh) (gb := gb) (gs := gs) (ge := ge) (l := lgV V1.l) (e := 16) (e0 := 0) (by decide)) rfl pick_ ?_
                rintro _ rfl
                exact finE ⟨_, rfl, V1, rfl, .inr ⟨hv1.mono (by omega), .inl ⟨rfl, h6⟩⟩⟩ ent_
              · cases e
                refine w_pan ?_
                refine fin_dpan (f76p (gv := gv) (gh := gh) (gb := gb) (gs := gs) (ge := ge) (l := lgV V1.l) (e := 13) (e0 := 0) (by decide)) rfl pick_ ?_
                rintro _ rfl
                exact finE ⟨_, rfl, V1, rfl, .inr ⟨hv1.mono (by omega), .inr ⟨rfl, h6⟩⟩⟩ ent_
      · cases e
      · cases e
    · obtain ⟨rfl, (⟨e, h5, hl⟩ | ⟨e, h5⟩ | ⟨e, h5⟩)⟩ := hq
      · cases e
      · cases e
        refine w_pan ?_
        refine fin_dpan (f76p (gv := gv) (gh := gh) (gb := gb) (gs := gs) (ge := ge) (l := lgV V.l) (e := 16) (e0 := 0) (by decide)) rfl pick_ ?_
        rintro _ rfl
        exact fin ⟨_, rfl, V, rfl, .inr ⟨VS.refl k, .inl ⟨rfl, h5⟩⟩⟩
      · cases e
        refine w_pan ?_
        refine fin_dpan (f76p (gv := gv) (gh := gh) (gb := gb) (gs := gs) (ge := ge) (l := lgV V.l) (e := 13) (e0 := 0) (by decide)) rfl pick_ ?_
        rintro _ rfl
        exact fin ⟨_, rfl, V, rfl, .inr ⟨VS.refl k, .inr ⟨rfl, h5⟩⟩⟩
end
end Go.Proofs.YtnilejkfbcnkkaaGreatDoor.V
end
section
set_option maxRecDepth 100000
set_option maxHeartbeats 2000000
namespace Go.Proofs.YtnilejkfbcnkkaaGreatDoor.V
variable [GlK]
open Go Go.RowKit
attribute [local irreducible] Yields cl blk pur rowc sv exC fo cnt xorb blk0

section
variable {gb : Nat} {b : Ben} {g : Geo}
theorem f84 {m n : Nat} {dv : Dev} (hd : b.ds[m]? = some dv) (hdd : dv.dead = false) (hn : n ≤ dv.n) (h0 : 0 < n) (h5 : n ≤ 512) (hk : b.k < 1099500000000) :
    Ct Tryz.prog 84 [PP gb, I m, I n] [BenC gb b] (fun v L => ∃ dv' : Dev, v = T [] ∧ dv'.n = dv.n ∧ dv'.dead = false ∧ (∀ s, s < n → dv'.rd s = blk0) ∧ L = [BenC gb ⟨b.ds.set m dv', b.k + n + 1⟩]) := by
  have hl := (List.getElem?_eq_some_iff.1 hd).1
  refine w_ct Tryz.func84 rfl Tryz.ntmps84 rfl fun w B => ?_
  refine W ?_
  refine w_loop (γ := Nat × Dev) (fun ⟨j, x⟩ => [(0, PP gb), (1, I m), (7, I n), (8, I j)])
    (fun ⟨j, x⟩ => [BenC gb ⟨b.ds.set m x, b.k + j⟩]) (fun ⟨j, x⟩ => j ≤ n ∧ x.n = dv.n ∧ x.dead = false ∧ ∀ s, s < j → x.rd s = blk0) (fun x => n - x.1) (0, dv) sl_ ?_
    ⟨Nat.zero_le _, rfl, hdd, fun s h => absurd h (Nat.not_lt_zero _)⟩ fun ⟨j, x⟩ B ⟨hj, hx1, hx2, hx3⟩ => ?_
  · have e : b.ds.set m dv = b.ds := by
      have : b.ds[m] = dv := (List.getElem?_eq_some_iff.1 hd).2
      rw [← this]; exact List.set_getElem_self hl
    show Ent _ [BenC gb ⟨b.ds.set m dv, b.k + 0⟩]
    rw [e]; exact ent_
  dsimp only at hj hx1 hx2 hx3 ⊢
  have hdx : (b.ds.set m x)[m]? = some x := List.getElem?_set_self hl
  refine W ?_
  refine w_if rfl (fun h' => ?_) (fun h' => ?_)
  · have hlt : j < n := by omega
    have h129 := f129 (gb := gb) (b := ⟨b.ds.set m x, b.k + j⟩) (d := m) (dv := x) (i := j) (x := blk0) hdx (by omega) (by show b.k + j < _; omega)
    refine W ?_
    refine cl' h129 ?_
    rintro _ _ (⟨e, rfl, rfl⟩ | ⟨_, rfl, rfl⟩)
    · rw [hx2] at e; cases e
    · refine W ?_
      refine cv f79v ?_
      refine W ?_
      refine w_land rfl (w_round (j + 1, x.set j blk0) ⟨hlt, hx1, hx2, fun s hs => ?_⟩ (by show n - (j + 1) < n - j; omega) sl_ ?_)
      · show (if s = j then blk0 else x.rd s) = blk0
        split
        · rfl
        · exact hx3 s (by omega)
      · show Ent _ [BenC gb ⟨b.ds.set m (x.set j blk0), b.k + (j + 1)⟩]
        have e : (⟨(b.ds.set m x).set m (x.set j blk0), b.k + j + 1⟩ : Ben) = ⟨b.ds.set m (x.set j blk0), b.k + (j + 1)⟩ := by rw [List.set_set]; rfl
        rw [← e]; exact ent_
  · have hjj : j = n := by omega
    subst hjj
    have h130 := f130 (gb := gb) (b := ⟨b.ds.set m x, b.k + j⟩) (d := m) (dv := x) hdx (by show b.k + j < _; omega) (by omega)
    refine W ?_
    refine cl' h130 ?_
    rintro _ _ (⟨e, rfl, rfl⟩ | ⟨_, rfl, rfl⟩)
    · rw [hx2] at e; cases e
    · refine W ?_
      refine cv f79v ?_
      refine W ?_
      exact w_ends rfl (finN (fin0 rfl ⟨_, rfl, x, rfl, hx1, hx2, hx3, rfl⟩ ent_))
theorem f81 (hg : GeoOk g) (hl : b.ds.length = g.m + 1) (hm : ∀ j dv, j < g.m → b.ds[j]? = some dv → 2 + g.s ≤ dv.n) (ho : ∀ dv, b.ds[g.m]? = some dv → 10 + g.r ≤ dv.n) : CtV Tryz.prog 81 [PP gb, GV g] [BenC gb b] (.bool true) := by
  have hd : ∀ j, j ≤ g.m → ∃ dv, b.ds[j]? = some dv := fun j hj => ⟨_, List.getElem?_eq_getElem (by omega)⟩
  have hm16 := hg.m16
  have hm3 := hg.m3
  have hr := hg.r256
  have hs := hg.s64
  obtain ⟨dv0, hd0⟩ := hd 0 (by omega)
  obtain ⟨dvl, hdl⟩ := hd g.m (Nat.le_refl _)
  have hlo := ho dvl hdl
  have h80 := f80 (gb := gb) hd0
  have h128 := f128 (gb := gb) hdl
  rw [hl] at h80
  refine w_ct Tryz.func81 rfl Tryz.ntmps81 rfl fun w B => ?_
  refine W1 fun g3 => ?_
  refine w_dag [.q 0, .q 1, .q 2, .q 3, .q 4, .q 5, .q 6, .q 7, .q 8, .q 9, .q 10, .q 11, .q 12, .q 13, .q 14, .q 15] (by decide +kernel) ?_
  refine W ?_
  refine dq h80 ?_
  refine W ?_
  rw [decide_eq_false (show ¬ (((g.m + 1 : Nat) : Int) ≠ (g.m : Int) + 1) by omega)]
  refine W ?_
  refine w_dgq rfl rfl (fun E => qt rfl rfl rfl (y_cl h128 rfl pick_)) ?_
  refine W ?_
  rw [decide_eq_false (show ¬ ((dvl.n : Int) < 10 + g.r) by omega)]
  refine W ?_
  refine w_loop (γ := Nat) (fun j => [(0, PP gb), (3, PP g3), (23, I g.m), (24, I j)])
    (fun j => [cl g3 (geL g) 27, BenC gb b]) (fun j => j ≤ g.m) (fun j => g.m - j) 0 sl_ ent_ (Nat.zero_le _) fun j B hj => ?_
  refine W ?_
  refine w_if rfl (fun h' => ?_) (fun h' => ?_)
  · have hlt : j < g.m := by omega
    obtain ⟨dv, hdv⟩ := hd j (by omega)
    have h128j := f128 (gb := gb) hdv
    have hnn := hm j dv hlt hdv
    refine W ?_
    first | refine cv h128j ?_ | refine cq h128j ?_ | refine cqs h128j ?_
    refine W ?_
    rw [decide_eq_false (show ¬ ((dv.n : Int) < 2 + g.s) by omega)]
    refine W ?_
    exact w_land rfl (w_round (j + 1) (by show j + 1 ≤ g.m; omega) (by show g.m - (j + 1) < g.m - j; omega) sl_ ent_)
  · refine W ?_
    exact fin ⟨_, rfl, rfl, rfl⟩
end
section
variable {ge gc : Nat} {v : Value}
theorem f83r : CtD Tryz.prog 83 [PP ge, PP gc] .returning .returning [cl ge [I 0] 39, cl gc [v] 79] (fun L => L = [cl ge [I 0] 39, cl gc [v] 79]) := by
  refine ctd_of Tryz.func83 rfl Tryz.ntmps83 rfl rfl fun w B => ?_
  refine W ?_
  exact w_ends rfl (fin_xd rfl ent_)
end
/-- a bench that a new array needs -/
structure BnC (g : Geo) (b : Ben) : Prop where
  len : b.ds.length = g.m + 1
  n : ∀ (j : Nat) (dv : Dev), j < g.m → b.ds[j]? = some dv → dv.n = 2 + g.s
  l : ∀ dv : Dev, b.ds[g.m]? = some dv → dv.n = 10 + g.r
  dead : ∀ (j : Nat) (dv : Dev), b.ds[j]? = some dv → dv.dead = false
  k : b.k = 0
theorem cnt_no {f : Nat → Nat} {k : Nat} : ∀ {n : Nat}, (∀ j, j < n → f j ≠ k) → cnt f k n = 0
  | 0, _ => by unfold cnt; rfl
  | n + 1, h => by
    unfold cnt
    rw [cnt_no fun j hj => h j (by omega), if_neg (h n (by omega))]
theorem foldb_zero : ∀ n, foldb ((List.range n).map fun _ => blk0) = blk0
  | 0 => rfl
  | n + 1 => by
    rw [List.range_succ, List.map_append, foldb_app, foldb_zero n]
    show xorb blk0 (foldb [blk0]) = _
    rw [foldb_cons, foldb_nil, xorb_self, xorb_self]
theorem RosOk.new {g : Geo} (hg : GeoOk g) : RosOk ⟨g, fun _ => 0, 0, false⟩ := by
  have := hg.s1
  exact ⟨hg, by show 0 < g.s; omega, fun _ _ => by show 0 ≤ 2; omega, fun _ _ _ => rfl, .inr ⟨cnt_no fun _ _ => by show 0 ≠ 2; decide, rfl⟩⟩
/-- where members are let be 0 -/
structure BlI (g : Geo) (j : Nat) (b : Ben) : Prop where
  len : b.ds.length = g.m + 1
  n : ∀ (j : Nat) (dv : Dev), j < g.m → b.ds[j]? = some dv → dv.n = 2 + g.s
  l : ∀ dv : Dev, b.ds[g.m]? = some dv → dv.n = 10 + g.r
  dead : ∀ (j : Nat) (dv : Dev), b.ds[j]? = some dv → dv.dead = false
  rd : ∀ i s, i < j → s < 2 + g.s → b.rd i s = blk0
  k : b.k ≤ 100 * j
theorem BlI.step {g : Geo} {j k : Nat} {b : Ben} {dv dv' : Dev} (h : BlI g j b) (hj : j < g.m) (hd : b.ds[j]? = some dv) (h1 : dv'.n = dv.n) (h2 : dv'.dead = false) (h3 : ∀ s, s < 2 + g.s → dv'.rd s = blk0) (hk : k ≤ 100 * (j + 1)) : BlI g (j + 1) ⟨b.ds.set j dv', k⟩ := by
  have hl := (List.getElem?_eq_some_iff.1 hd).1
  refine ⟨by rw [List.length_set]; exact h.len, fun i x hi hx => ?_, fun x hx => ?_, fun i x hx => ?_, fun i s hi hs => ?_, hk⟩
  · by_cases e : i = j
    · subst e; rw [List.getElem?_set_self hl] at hx; cases hx; rw [h1]; exact h.n i dv hi hd
    · rw [List.getElem?_set_ne (Ne.symm e)] at hx; exact h.n i x hi hx
  · rw [List.getElem?_set_ne (by omega)] at hx; exact h.l x hx
  · by_cases e : i = j
    · subst e; rw [List.getElem?_set_self hl] at hx; cases hx; exact h2
    · rw [List.getElem?_set_ne (Ne.symm e)] at hx; exact h.dead i x hx
  · by_cases e : i = j
    · subst e
      rw [Ben.rd_eq (show (⟨b.ds.set i dv', k⟩ : Ben).ds[i]? = some dv' from List.getElem?_set_self hl)]
      exact h3 s hs
    · have := h.rd i s (by omega) hs
      unfold Ben.rd at this ⊢
      show (match (b.ds.set j dv')[i]? with | some dv => dv.rd s | none => blk0) = _
      rw [List.getElem?_set_ne (Ne.symm e)]; exact this
section
variable {gb id : Nat} {b : Ben} {g : Geo}
theorem f48 (hg : GeoOk g) (hi : 0 < id) (hi2 : id < 1000) (hb : BnC g b) : Ct Tryz.prog 48 [PP gb, GV g, U id] [BenC gb b, glC] (fun v L => ∃ (gv gh gs : Nat) (V : Vlt), v = T [PP gv, I 0] ∧ L = VtM gv gh gb gs V ∧ VK (fun _ _ => blk0) V ∧ V.h.r.g = g ∧ V.b.k ≤ 10000 ∧ (∀ j, V.b.dead j = false) ∧ (∀ j, V.h.r.st j = 0) ∧ V.h.r.gone = false) := by
  have hm3 := hg.m3
  have hm16 := hg.m16
  have hr40 := hg.r40
  have hr := hg.r256
  have hs := hg.s64
  have hs1 := hg.s1
  have hd : ∀ j, j ≤ g.m → ∃ dv, b.ds[j]? = some dv := fun j hj => ⟨_, List.getElem?_eq_getElem (by have := hb.len; omega)⟩
  obtain ⟨dv0, hd0⟩ := hd 0 (by omega)
  have h80 := f80 (gb := gb) hd0
  rw [hb.len] at h80
  have h71 := f71 hg
  have h81 := f81 (gb := gb) (b := b) hg hb.len (fun j dv hj hd => by have := hb.n j dv hj hd; omega) (fun dv hd => by have := hb.l dv hd; omega)
  have h82 := f82 (gb := gb) hd0
  refine w_ct Tryz.func48 rfl Tryz.ntmps48 rfl fun w B => ?_
  refine W3 fun g4 g6 g7 => ?_
  refine cv h80 ?_
  refine W ?_
  rw [decide_eq_false (show ¬ ((g.m + 1 : Nat) : Int) = 0 by omega)]
  refine W ?_
  refine cv h71 ?_
  refine W ?_
  rw [decide_eq_false (show ¬ ((id : Nat) : Int) = 0 by omega)]
  refine W ?_
  refine cv h81 ?_
  refine W ?_
  refine cv h82 ?_
  refine W ?_
  refine cv h80 ?_
  refine W ?_
  refine w_loop (γ := Nat) (fun j => [(0, PP gb), (2, U id), (4, PP g4), (6, PP g6), (7, PP g7), (34, I (g.m + 1 : Nat)), (35, I j)])
    (fun j => [cl g7 [I 0] 39, cl g6 [PN] 79, cl g4 (geL g) 27, BenC gb b, glC]) (fun j => j ≤ g.m + 1) (fun j => g.m + 1 - j) 0 sl_ ent_ (Nat.zero_le _) fun j B hj => ?_
  refine W ?_
  refine w_if rfl (fun h' => ?_) (fun h' => ?_)
  · have hlt : j < g.m + 1 := by omega
    obtain ⟨dv, hdv⟩ := hd j (by omega)
    have h14 := f14 (gb := gb) hdv
    rw [hb.dead j dv hdv] at h14
    refine W ?_
    refine cv h14 ?_
    refine W ?_
    exact w_land rfl (w_round (j + 1) (by show j + 1 ≤ g.m + 1; omega) (by show g.m + 1 - (j + 1) < g.m + 1 - j; omega) sl_ ent_)
  · refine W1 fun gv => ?_
    refine w_dfr rfl rfl ?_
    refine W ?_
    refine w_dfr rfl rfl ?_
    refine W ?_
    refine w_loop (γ := Nat × Ben) (fun ⟨j, b'⟩ => [(0, PP gb), (2, U id), (4, PP g4), (6, PP g6), (7, PP g7), (48, I g.m), (49, I j)])
      (fun ⟨j, b'⟩ => [cl g7 [I 0] 39, cl g6 [PP gv] 79, cl g4 (geL g) 27, cl gv [PN, PP gb, PN, PN, .bool false] 87, BenC gb b', glC]) (fun ⟨j, b'⟩ => j ≤ g.m ∧ BlI g j b') (fun x => g.m - x.1) (0, b) sl_ ent_ ⟨Nat.zero_le _, hb.len, fun i dv hi hd => hb.n i dv hi hd, hb.l, hb.dead, fun i s hi => absurd hi (Nat.not_lt_zero _), by rw [hb.k]; exact Nat.zero_le _⟩ fun ⟨j, b'⟩ B ⟨hj, hI⟩ => ?_
    dsimp only at hj hI ⊢
    refine W ?_
    refine w_if rfl (fun h'' => ?_) (fun h'' => ?_)
    · have hlt : j < g.m := by omega
      obtain ⟨dv, hdv⟩ : ∃ dv, b'.ds[j]? = some dv := ⟨_, List.getElem?_eq_getElem (by have := hI.len; omega)⟩
      have hk := hI.k
      have h84 := f84 (gb := gb) (b := b') (m := j) (n := 2 + g.s) hdv (hI.dead j dv hdv) (by have := hI.n j dv hlt hdv; omega) (by omega) (by omega) (by omega)
      refine W ?_
      refine cl' h84 ?_
      rintro _ _ ⟨dv', rfl, hn', hd', hr', rfl⟩
      refine W ?_
      exact w_land rfl (w_round (j + 1, ⟨b'.ds.set j dv', b'.k + (2 + g.s) + 1⟩) ⟨hlt, hI.step hlt hdv hn' hd' hr' (by omega)⟩ (by show g.m - (j + 1) < g.m - j; omega) sl_ ent_)
    · have hjj : j = g.m := by omega
      subst hjj
      refine W ?_
      obtain ⟨dvl, hdl⟩ : ∃ dv, b'.ds[g.m]? = some dv := ⟨_, List.getElem?_eq_getElem (by have := hI.len; omega)⟩
      have hk := hI.k
      have hdd := hI.dead g.m dvl hdl
      have h85 := f85 (gb := gb) (b := b') (dv := dvl) (d := g.m) (id := id) (ring := g.r) hdl (by have := hI.l dvl hdl; omega) (by omega) hi hr40 hr
      refine w_dagD (N := 106) rfl [.q 0, .q 1, .q 2, .q 3, .q 4, .q 5, .q 6, .m 7 [0], .q 8, .q 9, .q 10, .q 11, .q 12, .m 13 [10], .m 14 []] (by decide +kernel) ?_
      refine W ?_
      refine dm fun E => ?_
      refine cl' h85 ?_
      rintro _ _ ⟨b2, hle, (⟨x, _, hdx, _⟩ | ⟨gl, rfl, _, hk12, rfl⟩)⟩
      · rw [hdd] at hdx; cases hdx
      · have h86 := f86 hg
        have hro : RosOk ⟨g, fun _ => 0, 0, false⟩ := RosOk.new hg
        have hl2 : b2.ds.length = g.m + 1 := by obtain ⟨_, _, _, e, _⟩ := hle.h; rw [e, List.length_set]; exact hI.len
        have hn2 : ∀ j dv, j < g.m → b2.ds[j]? = some dv → 2 + g.s ≤ dv.n := by
          intro i dv hi hx
          obtain ⟨_, _, _, e, _⟩ := hle.h
          rw [e, List.getElem?_set_ne (by omega)] at hx
          have := hI.n i dv hi hx
          omega
        have h87 := f87 (gb := gb) (b := b2) (id := id) (ev := 0) (r := ⟨g, fun _ => 0, 0, false⟩) hro hi (by decide) hl2 hn2
        refine W ?_
        refine cv f79v ?_
        refine W ?_
        refine cv h86 ?_
        refine W1 fun g10 => ?_
        refine w_dagD (N := 106) rfl [.q 0, .q 1, .q 2, .q 3, .m 4 [0], .q 5, .q 6, .q 7, .q 8, .q 9, .m 10 [7], .m 11 []] (by decide +kernel) ?_
        refine W ?_
        refine dm fun E => ?_
        refine cl' h87 ?_
        rintro _ _ ⟨gh, rfl, rfl⟩
        have hh : HB ⟨id, 0, ⟨g, fun _ => 0, 0, false⟩⟩ b2 := ⟨hro, hl2, hn2⟩
        have hkb : b2.k ≤ b'.k + 24 := hle.k2
        have h88 := f88 (gh := gh) (gb := gb) (h := ⟨id, 0, ⟨g, fun _ => 0, 0, false⟩⟩) (b := b2) hh (by omega)
        refine W ?_
        refine cv f79v ?_
        refine W ?_
        refine cl' h88 ?_
        rintro _ _ ⟨h2, b3, rfl, rfl, hs2, hset⟩
        have h89 := f89 (r := 20) hg (by decide) (by decide)
        refine W ?_
        refine cv f79v ?_
        refine W ?_
        refine w_dagD (N := 106) rfl [.q 0, .q 1, .m 2 [0], .q 3, .q 4, .q 5, .q 6, .q 7, .m 8 [5]] (by decide +kernel) ?_
        refine W ?_
        refine dm fun E => ?_
        refine cl' h89 ?_
        rintro _ _ ⟨gs, rfl, rfl⟩
        refine W ?_
        refine fin_dret f76r rfl Pick.nil ?_
        rintro _ rfl
        refine fin_dret (f83r (ge := g7) (gc := g6) (v := PP gv)) rfl pick_ ?_
        rintro _ rfl
        have hg2 : h2.r.g = g := hs2.re.g
        have hdead3 : ∀ j, b3.dead j = false := by
          intro j
          rw [hs2.be.dead, hle.dead]
          unfold Ben.dead
          cases e : b'.ds[j]? with
          | none => rfl
          | some dv => exact hI.dead j dv e
        have hst3 : ∀ j, h2.r.st j = 0 := by
          intro j
          rcases hs2.re.st j with e | ⟨_, e, _⟩
          · exact e
          · rw [hle.dead] at e
            have := hdead3 j
            rw [hs2.be.dead, hle.dead] at this
            rw [this] at e; cases e
        have hrd : ∀ m n, m < g.m → n < g.s → b3.rd m (2 + n) = blk0 := by
          intro m n hm hn
          rw [hs2.be.rd (show m < (⟨g, fun _ => 0, 0, false⟩ : Ros).g.m from hm) (by omega), hle.rd (by omega)]
          exact hI.rd m (2 + n) hm (by omega)
        refine finE ⟨_, rfl, gv, gh, gs, ⟨h2, b3, ⟨20, [], fun _ => .emp g.m⟩, some (gl, fresLg g.m id g.r)⟩, rfl, rfl, ⟨⟨hh.st hs2, ?_, ?_, ⟨hs2.re.gone, LgOk.fres hi hr40 hr, ?_, ?_⟩, ?_, fun _ => ⟨?_, fun n m => b3.rd m (2 + n), ?_, fun _ _ _ _ _ => rfl, ?_, ?_⟩⟩, fun h => by cases h⟩, hg2, ?_, hdead3, hst3, hs2.re.gone⟩ ?_
        · show 0 < h2.id; rw [hs2.id]; exact hi
        · refine ld_mo (h := ⟨id, 0, ⟨g, fun _ => 0, 0, false⟩⟩) hs2.mo ?_
          obtain ⟨dv', h3, h4, _⟩ := hle.dev hdl
          exact ⟨dv', h3, by show 10 + g.r ≤ dv'.n; have := hI.l dvl hdl; omega⟩
        · exact hg2.symm ▸ rfl
        · exact hg2.symm ▸ rfl
        · intro n hn; exact foldb_zero _
        · refine ⟨fun n m h => (by cases h), fun n h => ?_, fun n => ⟨fun h => (by cases h), fun h => ?_⟩, fun _ _ _ => rfl, rfl, fun n h => ?_, fun _ _ => rfl, fun n h => ?_⟩
          · rw [show ((⟨20, [], fun _ => .emp g.m⟩ : Shf).F n).drt = false from emp_drt] at h; cases h
          · rw [show ((⟨20, [], fun _ => .emp g.m⟩ : Shf).F n).drt = false from emp_drt] at h; cases h
          · rw [show ((⟨20, [], fun _ => .emp g.m⟩ : Shf).F n).drt = false from emp_drt] at h; cases h
          · rw [show ((⟨20, [], fun _ => .emp g.m⟩ : Shf).F n).drt = false from emp_drt] at h; cases h
        · intro n hn
          have hn : n < h2.r.g.s := hn
          rw [hg2] at hn
          show foldb ((List.range h2.r.g.m).map fun m => b3.rd m (2 + n)) = blk0
          rw [hg2]
          have : ((List.range g.m).map fun m => b3.rd m (2 + n)) = (List.range g.m).map fun _ => blk0 := List.map_congr_left fun m hm => hrd m n (List.mem_range.1 hm) hn
          rw [this]; exact foldb_zero _
        · intro n m _ h; cases h
        · intro n m hn hm _
          have hn : n < h2.r.g.s := hn
          have hm : m < h2.r.g.m := hm
          rw [hg2] at hn hm
          exact .inl (hrd m n hm hn).symm
        · have : b3.k ≤ b2.k + 600 := hs2.be.k2
          show b3.k ≤ 10000
          omega
        · show Ent _ [_, _, _, ShC gs h2.r.g _, LogC gl gb _, _]
          rw [hg2]; exact ent_
end
end Go.Proofs.YtnilejkfbcnkkaaGreatDoor.V
end
