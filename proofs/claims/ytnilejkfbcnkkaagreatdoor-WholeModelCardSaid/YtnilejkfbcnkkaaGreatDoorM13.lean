/- Proved: how a line is made clean, a new shelf; what is known of a stripe, and its dirty cells; the conditions stand in the statements. -/
import Derived.Test.YtnilejkfbcnkkaaGreatDoorM12
set_option linter.unusedVariables false
set_option linter.unusedSimpArgs false
set_option linter.unusedSectionVars false
section
set_option maxRecDepth 100000
set_option maxHeartbeats 2000000
namespace Go.Proofs.YtnilejkfbcnkkaaGreatDoor.V
variable [GlK]
open Go Go.RowKit
attribute [local irreducible] Yields cl blk pur rowc sv exC fo cnt

theorem pinL_fst {ks : List (Nat × Bool)} {k : Nat} {b : Bool} : (pinL ks k b).map Prod.fst = ks.map Prod.fst := by
  unfold pinL
  rw [List.map_map]
  refine List.map_congr_left fun p _ => ?_
  simp only [Function.comp]
  split <;> rfl
theorem ShOk.pin {g : Geo} {s : Shf} {mp : List (Nat × Nat)} (h : ShOk g s mp) {k : Nat} {b : Bool} : ShOk g { s with ks := pinL s.ks k b } mp :=
  ⟨h.nd, by show ((pinL s.ks k b).map Prod.fst).Nodup; rw [pinL_fst]; exact h.kd, fun j => by show _ ↔ j ∈ (pinL s.ks k b).map Prod.fst; rw [pinL_fst]; exact h.key j, h.ln, fun j hj => h.ab j (by have hj : j ∉ (pinL s.ks k b).map Prod.fst := hj; rw [pinL_fst] at hj; exact hj)⟩
theorem ShOk.emp {g : Geo} {s : Shf} {mp : List (Nat × Nat)} (ho : ShOk g s mp) {k : Nat} (h : lkp mp k = none) : s.F k = .emp g.m := ho.ab k fun h' => by
  have := (ho.key k).2 h'
  rw [h] at this; cases this
theorem ShOk.fs {g : Geo} {s : Shf} {mp : List (Nat × Nat)} (h : ShOk g s mp) {k : Nat} {l : Ln} (hl : l.m = g.m) (ha : s.F k = .emp g.m → l = .emp g.m) : ShOk g { s with F := fset s.F k l } mp := by
  refine ⟨h.nd, h.kd, h.key, fun j => ?_, fun j hj => ?_⟩
  · show (fset s.F k l j).m = g.m
    by_cases e : j = k
    · subst e; rw [fset_eq]; exact hl
    · rw [fset_ne e]; exact h.ln j
  · show fset s.F k l j = _
    have hj : j ∉ s.ks.map Prod.fst := hj
    by_cases e : j = k
    · subst e; rw [fset_eq]; exact ha (h.ab j hj)
    · rw [fset_ne e]; exact h.ab j hj
theorem f212s {g : Geo} {s : Shf} {mp : List (Nat × Nat)} {k : Nat} (ho : ShOk g s mp) (hm : 0 < g.m) : Ct Tryz.prog 212 [lkV mp k] [LnsC mp s.F] (fun v L => (∃ e : Int, v = .int .i64 e) ∧ L = [LnsC mp (fset s.F k (s.F k).clean)]) := by
  unfold lkV
  cases hlk : lkp mp k with
  | none =>
    have hFk := ho.emp hlk
    have e : fset s.F k (s.F k).clean = s.F := by
      have : (s.F k).clean = s.F k := by rw [hFk]; rfl
      rw [this, fset_self]
    rw [e]
    refine Ct.ent (Ct.frame (K := [LnsC mp s.F]) f212n ent_) ?_
    rintro _ _ ⟨_, ⟨rfl, rfl⟩, rfl⟩
    exact ⟨_, ⟨⟨_, rfl⟩, rfl⟩, ent_⟩
  | some gx =>
    refine Ct.ent (Ct.frame (K := [LnsC (cutL mp k) s.F]) (f212 (g := gx) (l := s.F k) (by rw [ho.ln]; exact hm)) (lns_out ho.nd hlk)) ?_
    rintro _ _ ⟨_, ⟨rfl, rfl⟩, rfl⟩
    exact ⟨_, ⟨⟨_, rfl⟩, rfl⟩, lns_in ho.nd hlk⟩
theorem f117s {g : Geo} {s : Shf} {mp : List (Nat × Nat)} {k : Nat} (ho : ShOk g s mp) (hm : g.m ≤ 16) : Ct Tryz.prog 117 [lkV mp k] [LnsC mp s.F] (fun v L => ∃ (l : List Nat) (a : Option Addr) (c : Nat), l = (List.range g.m).filter (s.F k).dr ∧ v = .slice a l.length c ∧ L = [LnsC mp s.F, sv eNat 3 l a c]) := by
  unfold lkV
  cases hlk : lkp mp k with
  | none =>
    have hFk := ho.emp hlk
    refine Ct.ent (Ct.frame (K := [LnsC mp s.F]) f117n ent_) ?_
    rintro _ _ ⟨_, ⟨rfl, rfl⟩, rfl⟩
    refine ⟨_, ⟨[], none, 0, ?_, rfl, rfl⟩, Ent.sel sel_ (ent_svn ent_)⟩
    rw [hFk]
    symm
    rw [List.filter_eq_nil_iff]
    intro a _ h
    cases h
  | some gx =>
    refine Ct.ent (Ct.frame (K := [LnsC (cutL mp k) s.F]) (f117 (g := gx) (l := s.F k) (by rw [ho.ln]; exact hm)) (lns_out ho.nd hlk)) ?_
    rintro _ _ ⟨_, ⟨l, a, c, h1, rfl, rfl⟩, rfl⟩
    refine ⟨_, ⟨l, a, c, by rw [h1, ho.ln], rfl, rfl⟩, ?_⟩
    refine Ent.trans (Ent.sel (sel_ : Sel (cl gx (lnL (s.F k)) 228) _ _) (Ent.sel (sel_ : Sel (LnsC (cutL mp k) s.F) _ _) (.refl _))) ?_
    exact (lns_back ho.nd hlk).trans (Ent.cons _ ent_)
def Shf.clean (s : Shf) (k : Nat) : Shf := { s with ks := pinL s.ks k false, F := fset s.F k (s.F k).clean }
section
variable {gs gh gb : Nat} {s : Shf} {g : Geo}
theorem f158 {n : Nat} (hg : GeoOk g) (hn : n < g.s) : Ct Tryz.prog 158 [PP gs, I n] [ShC gs g s] (fun v L => v = I 0 ∧ L = [ShC gs g (s.clean n)]) := by
  refine w_ct Tryz.func158 rfl Tryz.ntmps158 rfl fun w B => ?_
  have hm3 := hg.m3
  refine g_ex rfl Sel.hd fun ⟨gl, gm, mp⟩ => ?_
  refine g_pure rfl Sel.hd fun ho => ?_
  have h116 := f116 (gs := gs) (g := g) (gl := gl) (gm := gm)
  have h178 := f178 (gs := gs) (g := g) (gl := gl) (gm := gm) hn
  have h212 := f212s (k := n) ho (by omega)
  have h208 := f208 (gl := gl) (r := s.r) (ks := s.ks) (k := n) (b := false)
  refine W ?_
  refine cv h116 ?_
  refine W ?_
  refine cv h178 ?_
  refine W ?_
  refine w_y rfl rfl rfl (y_lk0 rfl rfl mem_) ?_
  refine cl' h212 ?_
  rintro _ _ ⟨⟨e, rfl⟩, rfl⟩
  refine W ?_
  refine cl' h208 ?_
  rintro _ _ ⟨⟨e', rfl⟩, rfl⟩
  refine W ?_
  refine finE ⟨_, rfl, rfl, rfl⟩ (ent_ex (gl, gm, mp) (ent_pur ((ho.fs (k := n) (l := (s.F n).clean) (by exact ho.ln n) (fun e => by rw [e]; rfl)).pin) ent_))
theorem b170 {g : Geo} {gl gm : Nat} : Tryz.prog.built 170 [(0, GV g), (1, PP gl), (2, .map (some gm))] = some (shL g gl gm).toArray := by
  unfold Program.built; simp only [Tryz.underlying170]; kernel_rfl
theorem f89 {r : Nat} (hg : GeoOk g) (h1 : 1 ≤ r) (h2 : r ≤ 64) : Ct Tryz.prog 89 [GV g, I r] [] (fun v L => ∃ gs, v = T [PP gs, I 0] ∧ L = [ShC gs g ⟨r, [], fun _ => .emp g.m⟩]) := by
  refine w_ct Tryz.func89 rfl Tryz.ntmps89 rfl fun w B => ?_
  have h141 := f141 h1 h2
  have h71 := f71 hg
  refine W1 fun g2 => ?_
  refine cl' h141 ?_
  rintro _ _ ⟨gl, rfl, rfl⟩
  refine W ?_
  refine cv h71 ?_
  refine W ?_
  refine w_mm (fun g => PP g) rfl fun gm => ?_
  refine w_y rfl rfl rfl (y_build (ps := [(0, GV g), (1, PP gl), (2, .map (some gm))]) (c := (shL g gl gm).toArray) (by rw [Array.toList_map]; exact pts_) b170) ?_
  refine w_bx rfl rfl vc_ fun gs => ?_
  refine W ?_
  refine finE ⟨_, rfl, gs, rfl, rfl⟩ (ent_ex (gl, gm, []) (ent_pur ⟨List.nodup_nil, List.nodup_nil, fun k => ⟨(fun h => by simp [lkp] at h), fun h => by simp at h⟩, fun k => rfl, fun k _ => rfl⟩ ?_))
  exact Ent.sel sel_ (Ent.sel sel_ (Ent.sel sel_ (ent_ex () ent_)))
end
end Go.Proofs.YtnilejkfbcnkkaaGreatDoor.V
end
section
set_option maxRecDepth 100000
set_option maxHeartbeats 2000000
namespace Go.Proofs.YtnilejkfbcnkkaaGreatDoor.V
variable [GlK]
open Go Go.RowKit
attribute [local irreducible] Yields cl blk pur rowc sv exC fo cnt

section
variable {gs gh gb : Nat} {s : Shf} {g : Geo}
theorem kn_set {kn : Nat → Bool} {M j : Nat} (hj : j < M) : ((List.range j).map kn ++ List.replicate (M - j) false).set j (kn j) = (List.range (j + 1)).map kn ++ List.replicate (M - (j + 1)) false := by
  rw [List.set_append_right _ _ (by simp), List.range_succ, List.map_append, List.append_assoc]
  congr 1
  rw [show M - j = (M - (j + 1)) + 1 by omega, List.replicate_succ]
  simp
theorem f155 {n : Nat} (hg : GeoOk g) (hn : n < g.s) : Ct Tryz.prog 155 [PP gs, I n] [ShC gs g s] (fun v L => ∃ a, v = SL a g.m g.m ∧ L = [ShC gs g s, rowc eBool 4 ((List.range g.m).map (s.F n).kn) a g.m]) := by
  refine w_ct Tryz.func155 rfl Tryz.ntmps155 rfl fun w B => ?_
  have hm16 := hg.m16
  have hm3 := hg.m3
  refine g_ex rfl Sel.hd fun ⟨gl, gm, mp⟩ => ?_
  refine g_pure rfl Sel.hd fun ho => ?_
  have h116 := f116 (gs := gs) (g := g) (gl := gl) (gm := gm)
  have h178 := f178 (gs := gs) (g := g) (gl := gl) (gm := gm) hn
  refine W ?_
  refine cv h116 ?_
  refine W ?_
  refine cv h178 ?_
  refine W ?_
  refine w_mk (E := eBool) false g.m rfl inferInstance rfl rfl rfl (by simp only [maxLen]; omega) (by omega) fun a => ?_
  simp only [List.length_replicate]
  refine W ?_
  refine w_loop (γ := Nat) (fun j => [(0, PP gs), (1, I n), (5, SL a g.m g.m), (22, I g.m), (23, I j)])
    (fun j => [rowc eBool 4 ((List.range j).map (s.F n).kn ++ List.replicate (g.m - j) false) a g.m, cl gs (shL g gl gm) 170, LruO gl s.r s.ks, mpC (fun g => PP g) gm mp, LnsC mp s.F]) (fun j => j ≤ g.m) (fun j => g.m - j) 0 sl_ ent_ (Nat.zero_le _) fun j B hj => ?_
  refine W ?_
  refine w_if rfl (fun h => ?_) (fun h => ?_)
  · have hlt : j < g.m := by omega
    have h124 := f124s (k := n) (i := j) ho hlt hm16
    refine w_skip ?_
    refine W ?_
    refine w_y rfl rfl rfl (y_lk0 rfl rfl mem_) ?_
    refine W ?_
    refine cv h124 ?_
    have hset := kn_set (kn := (s.F n).kn) hlt
    cases hkn : (s.F n).kn j
    · refine W ?_
      refine w_stE (E := eBool) (i := j) (x := false) inferInstance rfl rfl rfl ?_ rfl upd_ ?_
      · simp; omega
      refine W ?_
      refine w_land rfl (w_round (j + 1) hlt (by omega) sl_ ?_)
      rw [← hset, hkn]
      exact ent_
    · refine W ?_
      refine w_stE (E := eBool) (i := j) (x := true) inferInstance rfl rfl rfl ?_ rfl upd_ ?_
      · simp; omega
      refine W ?_
      refine w_land rfl (w_round (j + 1) hlt (by omega) sl_ ?_)
      rw [← hset, hkn]
      exact ent_
  · obtain rfl : j = g.m := by omega
    refine W ?_
    refine finE ⟨_, rfl, a, rfl, rfl⟩ (ent_ex (gl, gm, mp) (ent_pur ho ?_))
    simp only [Nat.sub_self, List.replicate_zero, List.append_nil]
    exact ent_
def Shf.cells (s : Shf) (M n : Nat) : List Cel := ((List.range M).filter (s.F n).dr).map fun m => ⟨n, m, (s.F n).bs m⟩
theorem f156 {n : Nat} (hg : GeoOk g) (hn : n < g.s) (hkd : ∀ m, (s.F n).dr m = true → (s.F n).kn m = true) : Ct Tryz.prog 156 [PP gs, I n] [ShC gs g s] (fun v L => ∃ (a : Option Addr) (c : Nat), v = .slice a (s.cells g.m n).length c ∧ L = [ShC gs g s, sv eCel 163 (s.cells g.m n) a c]) := by
  refine w_ct Tryz.func156 rfl Tryz.ntmps156 rfl fun w B => ?_
  have hm16 := hg.m16
  have hm3 := hg.m3
  refine g_ex rfl Sel.hd fun ⟨gl, gm, mp⟩ => ?_
  refine g_pure rfl Sel.hd fun ho => ?_
  have h116 := f116 (gs := gs) (g := g) (gl := gl) (gm := gm)
  have h117 := f117s (k := n) ho hm16
  refine W ?_
  refine cv h116 ?_
  refine W ?_
  refine w_y rfl rfl rfl (y_lk0 rfl rfl mem_) ?_
  refine cl' h117 ?_
  rintro _ _ ⟨ds, a, c, hds, rfl, rfl⟩
  have hdl : ds.length ≤ g.m := by rw [hds]; exact Nat.le_trans (List.length_filter_le _ _) (by simp)
  refine W ?_
  refine g_nil eCel 163 rfl ?_
  refine w_loop (γ := Nat × Option Addr × Nat) (fun ⟨j, a', c'⟩ => [(0, PP gs), (1, I n), (5, .slice a' j c'), (18, .slice a ds.length c), (19, I ds.length), (20, I j)])
    (fun ⟨j, a', c'⟩ => [sv eCel 163 ((ds.take j).map fun m => (⟨n, m, (s.F n).bs m⟩ : Cel)) a' c', sv eNat 3 ds a c, cl gs (shL g gl gm) 170, LruO gl s.r s.ks, mpC (fun g => PP g) gm mp, LnsC mp s.F]) (fun x => x.1 ≤ ds.length) (fun x => ds.length - x.1) (0, none, 0) sl_ ent_ (Nat.zero_le _) fun ⟨j, a', c'⟩ B hj => ?_
  dsimp only at hj ⊢
  refine W ?_
  refine w_if rfl (fun h => ?_) (fun h => ?_)
  · have hlt : j < ds.length := by omega
    have hmem : ds[j] ∈ (List.range g.m).filter (s.F n).dr := by rw [← hds]; exact List.getElem_mem hlt
    obtain ⟨hr1, hr2⟩ := List.mem_filter.1 hmem
    have hjm : ds[j] < g.m := List.mem_range.1 hr1
    have h124 := f124s (k := n) (i := ds[j]) ho hjm hm16
    rw [if_pos (hkd _ hr2)] at h124
    refine w_skip ?_
    refine g_svp rfl (sel_ : Sel (sv eNat 3 ds a c) _ _) (by omega) fun ga hga => ?_
    subst hga
    refine W ?_
    refine w_y rfl rfl rfl (y_lk0 rfl rfl mem_) ?_
    refine W ?_
    refine cv h124 ?_
    refine W1 fun g8 => ?_
    refine w_bs1 eCel (⟨n, ds[j], (s.F n).bs ds[j]⟩ : Cel) rfl rfl rfl (by decide) fun gt => ?_
    refine W ?_
    refine w_ap eCel (sel_ : Sel (sv eCel 163 _ a' c') _ _) (rd_row (show rowc eCel 163 [(⟨n, ds[j], (s.F n).bs ds[j]⟩ : Cel)] gt 1 ∈ _ from mem_)) (by simp; omega) (by simp; omega) (hn0 := by simp; omega) fun a2 c2 => ?_
    have e1 : (ds.take j).map (fun m => (⟨n, m, (s.F n).bs m⟩ : Cel)) ++ [⟨n, ds[j], (s.F n).bs ds[j]⟩] = (ds.take (j + 1)).map (fun m => (⟨n, m, (s.F n).bs m⟩ : Cel)) := by
      rw [List.take_succ_eq_append_getElem hlt, List.map_append]; rfl
    rw [e1]
    have e2 : ((ds.take (j + 1)).map (fun m => (⟨n, m, (s.F n).bs m⟩ : Cel))).length = j + 1 := by simp; omega
    rw [e2]
    refine W ?_
    exact w_land rfl (w_round (j + 1, a2, c2) hlt (by show ds.length - (j + 1) < ds.length - j; omega) sl_ (Ent.sel sel_ (Ent.trans (Ent.sel (sel_ : Sel (rowc eNat 3 ds ga c) _ _) (.refl _)) (ent_sv ent_))))
  · have hjj : j = ds.length := by omega
    subst hjj
    refine W ?_
    have e : (ds.take ds.length).map (fun m => (⟨n, m, (s.F n).bs m⟩ : Cel)) = s.cells g.m n := by rw [List.take_length, hds]; rfl
    have e2 : ds.length = (s.cells g.m n).length := by rw [← e]; simp
    refine finE ⟨_, rfl, a', c', by rw [← e2], rfl⟩ (ent_ex (gl, gm, mp) (ent_pur ho ?_))
    rw [e]
    exact ent_
end
end Go.Proofs.YtnilejkfbcnkkaaGreatDoor.V
end
