/- Proved: which stripes of a shelf are dirty; the least first of a shelf's dirty lines, and how equal numbers are struck; how equal numbers that stand side by side are struck; whether stripes fit on a shelf; how many different numbers a sorted list has; the conditions stand in the statements. -/
import Derived.Test.YtnilejkfbcnkkaaGreatDoorM14
import Derived.Lib.SliceRun
import Derived.Laws.IdiomCopy
set_option linter.unusedVariables false
set_option linter.unusedSimpArgs false
set_option linter.unusedSectionVars false
section
set_option maxRecDepth 100000
set_option maxHeartbeats 2000000
namespace Go.Proofs.YtnilejkfbcnkkaaGreatDoor.V
variable [GlK]
open Go Go.RowKit
attribute [local irreducible] Yields cl blk pur rowc sv exC fo cnt

def Ln.drt (l : Ln) : Bool := (List.range l.m).any l.dr
theorem lkp_iff {mp : List (Nat × Nat)} {k : Nat} : (lkp mp k).isSome = true ↔ k ∈ mp.map Prod.fst := by
  constructor
  · intro h
    obtain ⟨a, ha⟩ := Option.isSome_iff_exists.1 h
    exact List.mem_map.2 ⟨_, lkp_mem ha, rfl⟩
  · intro h
    cases e : lkp mp k with
    | some a => rfl
    | none =>
      obtain ⟨p, hp, rfl⟩ := List.mem_map.1 h
      exact absurd rfl (lkp_none.1 e p hp)
theorem ShOk.len {g : Geo} {s : Shf} {mp : List (Nat × Nat)} (h : ShOk g s mp) : mp.length = s.ks.length := by
  have : (mp.map Prod.fst).Perm (s.ks.map Prod.fst) := (List.perm_ext_iff_of_nodup h.nd h.kd).2 fun k => lkp_iff.symm.trans (h.key k)
  have := this.length_eq
  simpa using this
/-- the dirty stripes -/
structure DirL (s : Shf) (l : List Nat) : Prop where
  nd : l.Nodup
  srt : l.Pairwise (· ≤ ·)
  mem : ∀ k, k ∈ l ↔ (s.F k).drt = true
  len : l.length ≤ 1000
section
variable {gs gh gb : Nat} {s : Shf} {g : Geo}
theorem f67 (hg : GeoOk g) (hks : s.ks.length ≤ 1000) : Ct Tryz.prog 67 [PP gs] [ShC gs g s] (fun v L => ∃ (l : List Nat) (a : Option Addr) (c : Nat), v = .slice a l.length c ∧ L = [ShC gs g s, sv eNat 3 l a c] ∧ DirL s l) := by
  refine w_ct Tryz.func67 rfl Tryz.ntmps67 rfl fun w B => ?_
  have hm16 := hg.m16
  refine g_ex rfl Sel.hd fun ⟨gl, gm, mp⟩ => ?_
  refine g_pure rfl Sel.hd fun ho => ?_
  have hmp : mp.length = s.ks.length := ho.len
  have h116 := f116 (gs := gs) (g := g) (gl := gl) (gm := gm)
  refine W ?_
  refine cv h116 ?_
  refine W ?_
  refine w_rg rfl rfl (sel_ : Sel (mpC (fun g => PP g) gm mp) _ _) fun gi => ?_
  refine W ?_
  refine g_nil eNat 3 rfl ?_
  refine w_loop (γ := Option (Nat × Nat) × List (Nat × Nat) × List (Nat × Nat) × Option Addr × Nat)
    (fun ⟨cur, done, rem, a, c⟩ => [(0, PP gs), (3, .slice a ((done.filter fun p => (s.F p.1).drt).map Prod.fst).length c), (12, PP gi)])
    (fun ⟨cur, done, rem, a, c⟩ => [rgC (fun g => PP g) gi gm mp cur rem, sv eNat 3 ((done.filter fun p => (s.F p.1).drt).map Prod.fst) a c, cl gs (shL g gl gm) 170, LruO gl s.r s.ks, LnsC mp s.F])
    (fun ⟨cur, done, rem, a, c⟩ => mp.Perm (done ++ rem)) (fun x => x.2.2.1.length) (none, [], mp, none, 0) sl_ ent_ (by simp) fun ⟨cur, done, rem, a, c⟩ B hp => ?_
  dsimp only at hp ⊢
  refine W ?_
  refine w_nx rfl rfl (sel_ : Sel (rgC (fun g => PP g) gi gm mp cur rem) _ _) (fun h0 => ?_) (fun p rem' h1 => ?_)
  · subst h0
    rw [List.append_nil] at hp
    have hle : ((done.filter fun p => (s.F p.1).drt).map Prod.fst).length ≤ 1000 := by
      rw [List.length_map]
      have h2 := List.length_filter_le (fun p : Nat × Nat => (s.F p.1).drt) done
      have h3 := hp.length_eq
      omega
    have h118 := f118 (l := (done.filter fun p => (s.F p.1).drt).map Prod.fst) (a := a) (c := c) (by omega)
    refine W ?_
    refine cl' h118 ?_
    rintro _ _ ⟨rfl, rfl⟩
    refine W ?_
    refine finE ⟨_, rfl, srt ((done.filter fun p => (s.F p.1).drt).map Prod.fst), a, c, by rw [srt_len], rfl, ⟨?_, srt_sorted, fun k => ?_, by rw [srt_len]; exact hle⟩⟩ ?_
    · refine (srt_perm.nodup_iff).2 ?_
      exact (((hp.map Prod.fst).nodup_iff).1 ho.nd).sublist (List.filter_sublist.map _)
    · rw [srt_perm.mem_iff, List.mem_map]
      constructor
      · rintro ⟨p, hp', rfl⟩
        exact (List.mem_filter.1 hp').2
      · intro hd
        have hk : k ∈ s.ks.map Prod.fst := Classical.byContradiction fun hno => by
          rw [ho.ab k hno] at hd
          have : (Ln.emp g.m).drt = false := by unfold Ln.drt Ln.emp; simp
          rw [this] at hd; cases hd
        obtain ⟨q, hq, e⟩ := List.mem_map.1 (lkp_iff.1 ((ho.key k).2 hk))
        subst e
        exact ⟨q, List.mem_filter.2 ⟨hp.mem_iff.1 hq, hd⟩, rfl⟩
    · refine ent_ex (gl, gm, mp) (ent_pur ho ?_)
      refine Ent.trans (ent_rgm (g := gm) (gi := gi) (f := fun g => PP g) (m := mp) (cur := cur) (rem := []) (K := [sv eNat 3 (srt ((done.filter fun p => (s.F p.1).drt).map Prod.fst)) a c, cl gs (shL g gl gm) 170, LruO gl s.r s.ks, LnsC mp s.F]) ent_) ent_
  · have hpm : p ∈ mp := hp.mem_iff.2 (List.mem_append_right _ (h1.mem_iff.2 List.mem_cons_self))
    have hlk : lkp mp p.1 = some p.2 := lkp_of ho.nd hpm
    have h117 := f117s (k := p.1) ho hm16
    have e : lkV mp p.1 = PP p.2 := by unfold lkV; rw [hlk]; rfl
    rw [e] at h117
    have hp' : mp.Perm ((done ++ [p]) ++ rem') := by
      rw [List.append_assoc]
      exact hp.trans (List.Perm.append_left _ h1)
    have hlt : rem'.length < rem.length := by have := h1.length_eq; simp at this; omega
    have hle : ((done.filter fun p => (s.F p.1).drt).map Prod.fst).length ≤ 1000 := by
      rw [List.length_map]
      have h2 := List.length_filter_le (fun p : Nat × Nat => (s.F p.1).drt) done
      have h3 := hp.length_eq
      rw [List.length_append] at h3
      omega
    refine W ?_
    refine w_y rfl rfl rfl (y_en rfl mem_) ?_
    refine W ?_
    refine cl' h117 ?_
    rintro _ _ ⟨ds, a1, c1, hds, rfl, rfl⟩
    have hdr : (s.F p.1).drt = decide (0 < ds.length) := by
      have hm := ho.ln p.1
      unfold Ln.drt
      rw [hm, hds]
      by_cases hz : ((List.range g.m).filter (s.F p.1).dr) = []
      · rw [hz]
        simp only [List.length_nil, Nat.lt_irrefl, decide_false]
        rw [List.any_eq_false]
        intro x hx hx'
        exact absurd (List.mem_filter.2 ⟨hx, hx'⟩) (by rw [hz]; simp)
      · have h0 := List.length_pos_iff.2 hz
        rw [decide_eq_true h0, List.any_eq_true]
        obtain ⟨x, hx⟩ := List.exists_mem_of_ne_nil _ hz
        exact ⟨x, (List.mem_filter.1 hx).1, (List.mem_filter.1 hx).2⟩
    refine W ?_
    refine w_if rfl (fun h => ?_) (fun h => ?_)
    · have hd1 : (s.F p.1).drt = true := by rw [hdr]; exact decide_eq_true (by omega)
      refine W ?_
      refine w_bs1 eNat p.1 rfl rfl rfl (by decide) fun gt => ?_
      refine W ?_
      refine w_ap eNat (sel_ : Sel (sv eNat 3 ((done.filter fun p => (s.F p.1).drt).map Prod.fst) a c) _ _) (rd_row (show rowc eNat 3 [p.1] gt 1 ∈ _ from mem_)) (by simp only [List.length_singleton]; omega) (by simp only [List.length_singleton]; omega) fun a2 c2 => ?_
      have e1 : ((done.filter fun p => (s.F p.1).drt).map Prod.fst) ++ [p.1] = ((done ++ [p]).filter fun p => (s.F p.1).drt).map Prod.fst := by
        rw [List.filter_append, List.map_append]; simp [hd1]
      rw [e1]
      refine W ?_
      exact w_land rfl (w_round (some p, done ++ [p], rem', a2, c2) hp' hlt sl_ ent_)
    · have hd0 : (s.F p.1).drt = false := by rw [hdr]; exact decide_eq_false (by omega)
      have e1 : ((done.filter fun p => (s.F p.1).drt).map Prod.fst) = ((done ++ [p]).filter fun p => (s.F p.1).drt).map Prod.fst := by
        rw [List.filter_append, List.map_append]; simp [hd0]
      rw [e1]
      refine W ?_
      exact w_land rfl (w_round (some p, done ++ [p], rem', a, c) hp' hlt sl_ ent_)
end
end Go.Proofs.YtnilejkfbcnkkaaGreatDoor.V
end
section
set_option maxRecDepth 100000
set_option maxHeartbeats 2000000
namespace Go.Proofs.YtnilejkfbcnkkaaGreatDoor.V
variable [GlK]
open Go Go.RowKit
attribute [local irreducible] Yields cl blk pur rowc sv exC fo cnt

theorem f162s {g : Geo} {s : Shf} {mp : List (Nat × Nat)} {k : Nat} (ho : ShOk g s mp) (hk : k ∈ s.ks.map Prod.fst) : CtV Tryz.prog 162 [lkV mp k] [LnsC mp s.F] (U (s.F k).first) := by
  obtain ⟨gx, hlk⟩ := Option.isSome_iff_exists.1 ((ho.key k).2 hk)
  unfold lkV
  rw [hlk]
  refine Ct.ent (Ct.frame (K := [LnsC (cutL mp k) s.F]) (f162 (g := gx) (l := s.F k)) (lns_out ho.nd hlk)) ?_
  rintro _ _ ⟨_, ⟨rfl, rfl⟩, rfl⟩
  exact ⟨_, ⟨rfl, rfl⟩, lns_back ho.nd hlk⟩
section
variable {gs gh gb : Nat} {s : Shf} {g : Geo}
theorem f101 (hg : GeoOk g) (hks : s.ks.length ≤ 1000) (hf : ∀ k, (s.F k).drt = true → 0 < (s.F k).first) : Ct Tryz.prog 101 [PP gs] [ShC gs g s] (fun v L => ∃ x : Nat, v = U x ∧ L = [ShC gs g s] ∧
    (((∀ k, (s.F k).drt = false) ∧ x = 0) ∨ ((∃ k, (s.F k).drt = true ∧ x = (s.F k).first) ∧ ∀ k, (s.F k).drt = true → x ≤ (s.F k).first))) := by
  refine w_ct Tryz.func101 rfl Tryz.ntmps101 rfl fun w B => ?_
  have h67 := f67 (gs := gs) (g := g) (s := s) hg hks
  refine W ?_
  refine cl' h67 ?_
  rintro _ _ ⟨l, a, c, rfl, rfl, hl⟩
  refine g_ex rfl Sel.hd fun ⟨gl, gm, mp⟩ => ?_
  refine g_pure rfl Sel.hd fun ho => ?_
  refine g_lenS rfl (show sv eNat 3 l a c ∈ _ from mem_) fun hlc hcm => ?_
  simp only [maxLen] at hcm
  refine W ?_
  refine w_loop (γ := Nat × Nat) (fun ⟨j, x⟩ => [(0, PP gs), (3, U x), (8, .slice a l.length c), (9, I l.length), (10, I j)])
    (fun ⟨j, x⟩ => [sv eNat 3 l a c, cl gs (shL g gl gm) 170, LruO gl s.r s.ks, mpC (fun g => PP g) gm mp, LnsC mp s.F])
    (fun ⟨j, x⟩ => j ≤ l.length ∧ (j = 0 → x = 0) ∧ (0 < j → ∃ i, i < j ∧ ∃ hi : i < l.length, x = (s.F l[i]).first) ∧ ∀ i, i < j → ∀ hi : i < l.length, x ≤ (s.F l[i]).first) (fun x => l.length - x.1) (0, 0) sl_ ent_
    ⟨Nat.zero_le _, fun _ => rfl, fun h => by omega, fun i hi => by omega⟩ fun ⟨j, x⟩ B ⟨hj, hx0, hx1, hx2⟩ => ?_
  dsimp only at hj hx0 hx1 hx2 ⊢
  refine W ?_
  refine w_if rfl (fun h => ?_) (fun h => ?_)
  · have hlt : j < l.length := by omega
    have hdj : (s.F l[j]).drt = true := (hl.mem _).1 (List.getElem_mem hlt)
    have hkj : l[j] ∈ s.ks.map Prod.fst := Classical.byContradiction fun hno => by
      rw [ho.ab _ hno] at hdj
      have : (Ln.emp g.m).drt = false := by unfold Ln.drt Ln.emp; simp
      rw [this] at hdj; cases hdj
    have h162 := f162s (k := l[j]) ho hkj
    refine w_skip ?_
    refine g_svp rfl (sel_ : Sel (sv eNat 3 l a c) _ _) (by omega) fun ga hga => ?_
    subst hga
    refine W ?_
    refine w_y rfl rfl rfl (y_lk0 rfl rfl mem_) ?_
    refine W ?_
    refine cv h162 ?_
    refine W ?_
    have hpos := hf _ hdj
    by_cases hz : x = 0
    · have hj0 : j = 0 := Classical.byContradiction fun hne => by
        obtain ⟨i, hi, hil, e⟩ := hx1 (by omega)
        have := hf l[i] ((hl.mem _).1 (List.getElem_mem hil))
        omega
      subst hj0
      rw [decide_eq_true (show ((x : Nat) : Int) = 0 by omega)]
      refine W ?_
      refine w_land rfl (w_round (1, (s.F l[0]).first) ⟨hlt, (fun e => by cases e), fun _ => ⟨0, by omega, hlt, rfl⟩, fun i hi hil => ?_⟩ (by show l.length - 1 < l.length - 0; omega) sl_ (Ent.trans (Ent.sel (sel_ : Sel (rowc eNat 3 l ga c) _ _) (.refl _)) (ent_sv ent_)))
      obtain rfl : i = 0 := by omega
      exact Nat.le_refl _
    · rw [decide_eq_false (show ¬ ((x : Nat) : Int) = 0 by omega)]
      refine W ?_
      refine w_if rfl (fun h => ?_) (fun h => ?_)
      · refine W ?_
        refine w_land rfl (w_round (j + 1, (s.F l[j]).first) ⟨hlt, (fun e => by cases e), fun _ => ⟨j, by omega, hlt, rfl⟩, fun i hi hil => ?_⟩ (by show l.length - (j + 1) < l.length - j; omega) sl_ (Ent.trans (Ent.sel (sel_ : Sel (rowc eNat 3 l ga c) _ _) (.refl _)) (ent_sv ent_)))
        by_cases e : i = j
        · subst e; exact Nat.le_refl _
        · have := hx2 i (by omega) hil; omega
      · refine W ?_
        refine w_land rfl (w_round (j + 1, x) ⟨hlt, (fun e => by cases e), fun _ => ?_, fun i hi hil => ?_⟩ (by show l.length - (j + 1) < l.length - j; omega) sl_ (Ent.trans (Ent.sel (sel_ : Sel (rowc eNat 3 l ga c) _ _) (.refl _)) (ent_sv ent_)))
        · have : 0 < j := Classical.byContradiction fun hne => hz (hx0 (by omega))
          obtain ⟨i, hi, hil, e⟩ := hx1 this
          exact ⟨i, by omega, hil, e⟩
        · by_cases e : i = j
          · subst e; omega
          · exact hx2 i (by omega) hil
  · have hjj : j = l.length := by omega
    subst hjj
    refine W ?_
    refine finE ⟨_, rfl, x, rfl, rfl, ?_⟩ (ent_ex (gl, gm, mp) (ent_pur ho ent_))
    by_cases hl0 : l.length = 0
    · refine .inl ⟨fun k => ?_, hx0 hl0⟩
      have hl0 : l = [] := List.eq_nil_of_length_eq_zero hl0
      cases hd : (s.F k).drt
      · rfl
      · have := (hl.mem k).2 hd; rw [hl0] at this; cases this
    · obtain ⟨i, hi, hil, e⟩ := hx1 (by omega)
      refine .inr ⟨⟨l[i], (hl.mem _).1 (List.getElem_mem hil), e⟩, fun k hk => ?_⟩
      obtain ⟨i', hi', rfl⟩ := List.mem_iff_getElem.1 ((hl.mem k).2 hk)
      exact hx2 i' hi' hi'
end
end Go.Proofs.YtnilejkfbcnkkaaGreatDoor.V
end
section
set_option maxRecDepth 100000
set_option maxHeartbeats 2000000
namespace Go.Proofs.YtnilejkfbcnkkaaGreatDoor.V
variable [GlK]
open Go Go.RowKit
attribute [local irreducible] Yields cl blk pur rowc sv exC fo cnt

theorem setCells_fr (g : Nat) : ∀ (vs : List Value) (o : Nat) (w : World), (w.setCells g o vs).heap.size = w.heap.size ∧ (∀ i, i ≠ g → (w.setCells g o vs).heap[i]? = w.heap[i]?) ∧ (w.setCells g o vs).os = w.os ∧ (w.setCells g o vs).tape = w.tape ∧ (w.setCells g o vs).output = w.output
  | [], o, w => ⟨rfl, fun _ _ => rfl, rfl, rfl, rfl⟩
  | v :: r, o, w => by
    obtain ⟨h1, h2, h3, h4, h5⟩ := setCells_fr g r (o + 1) (w.setCell ⟨g, o, none⟩ v)
    refine ⟨h1.trans ?_, fun i hi => (h2 i hi).trans ?_, h3.trans rfl, h4.trans rfl, h5.trans rfl⟩
    · simp [World.setCell]
    · simp [World.setCell, Array.getElem?_modify, Ne.symm hi]
section
variable {n : Fp} {w0 : World} {S : Nat → Prop} {X : Post} {R : Regs} {L K : Hp} {ks : List Fr} {ops : Array Oper} {rest : List Oper} {ty : TypeId} {pos : String} {after : Array Go.Edge}
/-- what is cleared is let go of -/
theorem w_clr {x : Operand} {l : List Nat} {a : Option Addr} {g o m c cap : Nat} (hx : ev R x = .slice a m c) (ha : 0 < m → a = some ⟨g, o, none⟩) (hm : o + m ≤ l.length) (hs : Sel (rowc eNat 3 l g cap) L K)
    (h : Gl n w0 S X (.ops ops ks rest) R K) : Gl n w0 S X (.ops ops ks (⟨none, .call { callee := .builtin .clear, args := #[x], argTypes := #[30] }, ty, pos, after, none⟩ :: rest)) R L := by
  unfold Gl at *
  refine o_op rfl rfl fun w hw => ?_
  obtain ⟨B, ⟨B1, B2, rfl, h1, h2⟩, hw⟩ := hw.ent (.perm hs)
  unfold rowc at h1
  obtain ⟨cs, rfl, hr⟩ := h1
  have hdrop : St w0 S K w := ⟨B2, h2, hw.drop (List.sublist_append_right _ _)⟩
  by_cases hz : m = 0
  · subst hz
    refine ⟨T [], w, K, ?_, hdrop, h⟩
    have hrun : ∀ ty', (Builtin.clear_ #[30] ty' #[.slice a 0 c]).run Tryz.prog w = .ok (T []) w := fun ty' => by
      cases a <;> simp [Builtin.clear_, run_underlying Tryz.underlying30]
    simp [execOp, resolve, hx, invoke, builtin, hrun]
    try rfl
  · have ha := ha (by omega)
    subst ha
    have hg : w.heap[g]? = some (.cells cs 3 (0, 0)) := hw.at_ (g, _) (by simp)
    have hcs : cs.size = cap := by have := hr.size; simpa [eNat] using this
    have hle := hr.le
    have hv : ∀ w, (zeroValue 3).run Tryz.prog w = .ok (I 0) w := Tryz.zeroValue3
    have hrun := Lib.run_clear_slice (P := Tryz.prog) w 30 3 ty (I 0) Tryz.underlying30 hv rfl rfl g o m c (by omega) (fun j hj => by simp [World.cell?, hg]; omega) (fun j hj => by simp [World.frozen?, hg])
    obtain ⟨f1, f2, f3, f4, f5⟩ := setCells_fr g (List.replicate m (I 0)) o w
    have hnd := hw.nd
    simp only [List.singleton_append, List.map_cons, List.nodup_cons] at hnd
    refine ⟨T [], w.setCells g o (List.replicate m (I 0)), K, ?_, ⟨B2, h2, ⟨fun p hp => ?_, hnd.2, fun p hp => hw.own p (List.mem_append_right _ hp), f3.trans hw.os, f4.trans hw.tape, f5.trans hw.output, by rw [f1]; exact hw.le, fun b hb hS => ?_⟩⟩, h⟩
    · simp [execOp, resolve, hx, invoke, builtin, hrun]
      try rfl
    · have hne : p.1 ≠ g := fun e => hnd.1 (e ▸ List.mem_map_of_mem hp)
      rw [f2 _ hne]
      exact hw.at_ p (List.mem_append_right _ hp)
    · have hne : b ≠ g := fun e => by
        rcases hw.own (g, .cells cs 3 (0, 0)) (by simp) with x | x
        · exact hS (e ▸ x)
        · have x : w0.heap.size ≤ g := x; omega
      rw [f2 _ hne]
      exact hw.fr b hb hS
end
def chg (l : List Nat) : Nat → Nat
  | 0 => 0
  | p + 1 => chg l p + if 0 < p ∧ l.getD p 0 ≠ l.getD (p - 1) 0 then 1 else 0
def cpl (l : List Nat) : Nat := if l.length = 0 then 0 else chg l l.length + 1
theorem chg_le (l : List Nat) : ∀ i, chg l (i + 1) ≤ i
  | 0 => by simp [chg]
  | i + 1 => by have := chg_le l i; show chg l (i + 1) + (if 0 < i + 1 ∧ l.getD (i + 1) 0 ≠ l.getD (i + 1 - 1) 0 then 1 else 0) ≤ i + 1; split <;> omega
theorem chg_eq {l : List Nat} {p : Nat} (h : p + 1 < l.length) (e : l[p + 1] = l[p]) : chg l (p + 2) = chg l (p + 1) := by
  show chg l (p + 1) + (if 0 < p + 1 ∧ l.getD (p + 1) 0 ≠ l.getD (p + 1 - 1) 0 then 1 else 0) = _
  rw [if_neg (by simp [List.getD_eq_getElem?_getD, List.getElem?_eq_getElem h, List.getElem?_eq_getElem (show p < l.length by omega), e])]
  rfl
theorem chg_ne {l : List Nat} {p : Nat} (h : p + 1 < l.length) (e : l[p + 1] ≠ l[p]) : chg l (p + 2) = chg l (p + 1) + 1 := by
  show chg l (p + 1) + (if 0 < p + 1 ∧ l.getD (p + 1) 0 ≠ l.getD (p + 1 - 1) 0 then 1 else 0) = _
  rw [if_pos ⟨by omega, by simpa [List.getD_eq_getElem?_getD, List.getElem?_eq_getElem h, List.getElem?_eq_getElem (show p < l.length by omega)] using e⟩]
theorem f201 {l : List Nat} {a : Option Addr} {c : Nat} : Ct Tryz.prog 201 [.slice a l.length c] [sv eNat 3 l a c] (fun v L => ∃ a' c', v = .slice a' (cpl l) c' ∧ L = []) := by
  refine w_ct Tryz.func201 rfl Tryz.ntmps201 rfl fun w B => ?_
  refine g_lenS rfl (show sv eNat 3 l a c ∈ _ from mem_) fun hlc hcm => ?_
  simp only [maxLen] at hcm
  refine W ?_
  refine w_if rfl (fun h => ?_) (fun h => ?_)
  · refine W ?_
    refine finE ⟨_, rfl, a, c, ?_, rfl⟩ Ent.nil
    have : cpl l = l.length := by
      unfold cpl
      split
      · omega
      · have : l.length = 1 := by omega
        rw [this]; simp [chg]
    rw [this]; rfl
  · have hn2 : 2 ≤ l.length := by omega
    refine g_svp rfl (sel_ : Sel (sv eNat 3 l a c) _ _) (by omega) fun g hg => ?_
    subst hg
    refine W ?_
    refine w_loop (γ := Nat) (fun k => [(0, .slice (some ⟨g, 0, none⟩) l.length c), (3, I (k + 1 : Nat))]) (fun k => [rowc eNat 3 l g c]) (fun k => k + 1 ≤ l.length ∧ chg l (k + 1) = k) (fun k => l.length - k) 0 sl_ ent_ ⟨by omega, by simp [chg]⟩ fun k B ⟨hk, hck⟩ => ?_
    refine W ?_
    refine w_if rfl (fun h => ?_) (fun h => ?_)
    · have hlt : k + 1 < l.length := by omega
      refine w_skip ?_
      refine W ?_
      have ek : (((k + 1 : Nat) : Int) - 1).toNat = k := by omega
      simp only [ek]
      refine w_if rfl (fun h => ?_) (fun h => ?_)
      · have he : l[k + 1] = l[k] := by omega
        have hc2 := chg_eq hlt he
        refine W ?_
        refine w_y rfl rfl rfl (y_part (k + 1) l.length rfl (UT.h (P := Tryz.prog)) (SZ.h (P := Tryz.prog)) ⟨.i64, rfl⟩ rfl (by omega) hlc) ?_
        refine W ?_
        refine w_loop (γ := Nat × List Nat) (fun ⟨j, l'⟩ => [(0, .slice (some ⟨g, 0, none⟩) l.length c), (3, I (chg l (k + 2 + j) + 1 : Nat)), (4, .slice (part_ (some ⟨g, 0, none⟩) (k + 1) 1 c) (l.length - (k + 1)) (c - (k + 1))), (5, I (j + 1 : Nat))])
          (fun ⟨j, l'⟩ => [rowc eNat 3 l' g c]) (fun ⟨j, l'⟩ => l'.length = l.length ∧ (∀ p, k + 1 + j ≤ p → l'[p]? = l[p]?) ∧ chg l (k + 2 + j) ≤ k + j ∧ k + 2 + j ≤ l.length) (fun x => l.length - x.1) (0, l) ⟨rfl, ie (by rw [Nat.add_zero, hc2, hck]), rfl, rfl, trivial⟩ ent_ ⟨rfl, fun _ _ => rfl, by rw [Nat.add_zero, hc2, hck]; omega, by omega⟩ fun ⟨j, l'⟩ B ⟨hl1, hl2, hl3, hl4⟩ => ?_
        dsimp only at hl1 hl2 hl3 hl4 ⊢
        refine W ?_
        refine w_if rfl (fun h => ?_) (fun h => ?_)
        · have hlt2 : k + 2 + j < l.length := by omega
          have hpart : part_ (some ⟨g, 0, none⟩) (k + 1) 1 c = some ⟨g, k + 1, none⟩ := by rw [part_, if_neg (by omega), Nat.mul_one]; simp [Addr.add]
          have hv1 : l'[k + 1 + (j + 1)]? = some l[k + 2 + j] := by rw [hl2 _ (by omega), ← List.getElem?_eq_getElem hlt2]; congr 1; omega
          have hv0 : l'[k + 1 + j]? = some (l[k + 1 + j]'(by omega)) := by rw [hl2 _ (by omega), List.getElem?_eq_getElem]
          refine w_skip ?_
          refine W ?_
          refine w_qy rfl rfl (y_ixO (b := g) (o := k + 1) (j + 1) hpart rfl rfl (UT.h (P := Tryz.prog)) (SZ.h (P := Tryz.prog)) rfl (by omega)) ?_
          refine w_qy rfl rfl (y_ldE1 (E := eNat) (j := 0) rfl mem_ hv1 rfl (by show _ = (k + 1 + (j + 1)) * 1 + 0; omega)) ?_
          refine W ?_
          refine w_qy rfl rfl (y_ixO (b := g) (o := k + 1) j hpart rfl rfl (UT.h (P := Tryz.prog)) (SZ.h (P := Tryz.prog)) (by omega) (by omega)) ?_
          refine w_qy rfl rfl (y_ldE1 (E := eNat) (j := 0) rfl mem_ hv0 rfl (by show _ = (k + 1 + j) * 1 + 0; omega)) ?_
          refine W ?_
          refine w_if rfl (fun hne => ?_) (fun hne => ?_)
          · have hne' : l[k + 2 + j] ≠ l[k + 1 + j]'(by omega) := by omega
            have hcn : chg l (k + 2 + (j + 1)) = chg l (k + 2 + j) + 1 := by
              have e1 : k + 2 + (j + 1) = (k + 1 + j) + 2 := by omega
              have e2 : k + 2 + j = (k + 1 + j) + 1 := by omega
              have hx : l[k + 1 + j + 1]'(by omega) ≠ l[k + 1 + j]'(by omega) := by
                have : l[k + 1 + j + 1]'(by omega) = l[k + 2 + j] := by congr 1; omega
                rw [this]; exact hne'
              rw [e1, e2]
              exact chg_ne (by omega) hx
            have h3 : chg l (k + 2 + (j + 1)) ≤ k + (j + 1) := by rw [hcn]; omega
            have h4 : k + 2 + (j + 1) ≤ l.length := by omega
            refine W ?_
            refine w_y rfl rfl rfl (y_ixO (b := g) (o := k + 1) (j + 1) hpart rfl rfl (UT.h (P := Tryz.prog)) (SZ.h (P := Tryz.prog)) rfl (by omega)) ?_
            refine w_y rfl rfl rfl (y_ldE1 (E := eNat) (j := 0) rfl mem_ hv1 rfl (by show _ = (k + 1 + (j + 1)) * 1 + 0; omega)) ?_
            refine W ?_
            refine w_stE (E := eNat) (i := chg l (k + 2 + j) + 1) (x := l[k + 2 + j]) inferInstance rfl rfl rfl ?_ rfl upd_ ?_
            · omega
            refine W ?_
            refine w_land rfl (w_round (j + 1, l'.set (chg l (k + 2 + j) + 1) l[k + 2 + j]) ⟨by simpa using hl1, fun p hp => ?_, h3, h4⟩ (by show l.length - (j + 1) < l.length - j; omega) ⟨rfl, ie (by rw [hcn]; omega), rfl, ie (by omega), trivial⟩ ent_)
            rw [List.getElem?_set_ne (by omega)]
            exact hl2 p (by omega)
          · have he' : l[k + 2 + j] = l[k + 1 + j]'(by omega) := by omega
            have hcn : chg l (k + 2 + (j + 1)) = chg l (k + 2 + j) := by
              have e1 : k + 2 + (j + 1) = (k + 1 + j) + 2 := by omega
              have e2 : k + 2 + j = (k + 1 + j) + 1 := by omega
              have hx : l[k + 1 + j + 1]'(by omega) = l[k + 1 + j]'(by omega) := by
                have : l[k + 1 + j + 1]'(by omega) = l[k + 2 + j] := by congr 1; omega
                rw [this]; exact he'
              rw [e1, e2]
              exact chg_eq (by omega) hx
            have h3 : chg l (k + 2 + (j + 1)) ≤ k + (j + 1) := by rw [hcn]; omega
            have h4 : k + 2 + (j + 1) ≤ l.length := by omega
            refine W ?_
            refine w_land rfl (w_round (j + 1, l') ⟨hl1, fun p hp => hl2 p (by omega), h3, h4⟩ (by show l.length - (j + 1) < l.length - j; omega) ⟨rfl, ie (by rw [hcn]), rfl, ie (by omega), trivial⟩ ent_)
        · have hkn : k + 2 + j = l.length := by omega
          refine W ?_
          refine w_y rfl rfl rfl (y_part (chg l (k + 2 + j) + 1) l.length rfl (UT.h (P := Tryz.prog)) (SZ.h (P := Tryz.prog)) ⟨.i64, rfl⟩ rfl (by omega) hlc) ?_
          refine w_clr (g := g) (o := chg l (k + 2 + j) + 1) rfl (fun h0 => ?_) (by omega) (sel_ : Sel (rowc eNat 3 l' g c) _ _) ?_
          · rw [part_, if_neg (by omega), Nat.mul_one]; simp [Addr.add]
          refine W ?_
          refine w_y rfl rfl rfl (y_partL (chg l (k + 2 + j) + 1) rfl (UT.h (P := Tryz.prog)) (SZ.h (P := Tryz.prog)) ⟨.i64, rfl⟩ (by omega)) ?_
          refine W ?_
          refine finE ⟨_, rfl, some ⟨g, 0, none⟩, c, ?_, rfl⟩ ent_
          have : cpl l = chg l (k + 2 + j) + 1 := by
            unfold cpl
            rw [if_neg (by omega), ← hkn]
          rw [this]; rfl
      · have he : l[k + 1] ≠ l[k] := by omega
        refine W ?_
        refine w_land rfl (w_round (k + 1) ⟨hlt, by rw [chg_ne hlt he, hck]⟩ (by omega) ⟨rfl, ie (by omega), trivial⟩ ent_)
    · have hkn : k + 1 = l.length := by omega
      refine W ?_
      refine finE ⟨_, rfl, some ⟨g, 0, none⟩, c, ?_, rfl⟩ Ent.nil
      have : cpl l = l.length := by
        unfold cpl
        rw [if_neg (by omega), ← hkn, hck]
      rw [this]; rfl
end Go.Proofs.YtnilejkfbcnkkaaGreatDoor.V
end
section
set_option maxRecDepth 100000
set_option maxHeartbeats 2000000
namespace Go.Proofs.YtnilejkfbcnkkaaGreatDoor.V
variable [GlK]
open Go Go.RowKit
attribute [local irreducible] Yields cl blk pur rowc sv exC fo cnt

theorem f202o {gl r : Nat} {ks : List (Nat × Bool)} : CtV Tryz.prog 202 [PP gl] [LruO gl r ks] (I r) := by
  refine CtP.ex fun ⟨gm, en, il, gs, f, mp⟩ => ?_
  refine CtP.pur_ fun h => ?_
  refine Ct.ent (Ct.frame (K := [mpC (fun g => PP g) gm mp, NodesC il f]) (f202 (gl := gl) (r := r) (gm := gm) (en := en)) ent_) ?_
  rintro _ _ ⟨_, ⟨rfl, rfl⟩, rfl⟩
  exact ⟨_, ⟨rfl, rfl⟩, ent_ex (gm, en, il, gs, f, mp) (ent_pur h ent_)⟩
section
variable {gs gh gb : Nat} {s : Shf} {g : Geo}
theorem f116o : CtV Tryz.prog 116 [PP gs] [ShC gs g s] (.bool false) := by
  refine CtP.ex fun ⟨gl, gm, mp⟩ => ?_
  refine CtP.pur_ fun h => ?_
  refine Ct.ent (Ct.frame (K := [LruO gl s.r s.ks, mpC (fun g => PP g) gm mp, LnsC mp s.F]) (f116 (gs := gs) (g := g) (gl := gl) (gm := gm)) ent_) ?_
  rintro _ _ ⟨_, ⟨rfl, rfl⟩, rfl⟩
  exact ⟨_, ⟨rfl, rfl⟩, ent_ex (gl, gm, mp) (ent_pur h ent_)⟩
theorem f123o {n m : Nat} (hn : n < g.s) (hm : m < g.m) : CtV Tryz.prog 123 [PP gs, PlV n m] [ShC gs g s] (.bool true) := by
  refine CtP.ex fun ⟨gl, gm, mp⟩ => ?_
  refine CtP.pur_ fun h => ?_
  refine Ct.ent (Ct.frame (K := [LruO gl s.r s.ks, mpC (fun g => PP g) gm mp, LnsC mp s.F]) (f123 (gs := gs) (g := g) (gl := gl) (gm := gm) hn hm) ent_) ?_
  rintro _ _ ⟨_, ⟨rfl, rfl⟩, rfl⟩
  exact ⟨_, ⟨rfl, rfl⟩, ent_ex (gl, gm, mp) (ent_pur h ent_)⟩
theorem f147 {st : List Nat} {a : Option Addr} {c : Nat} (hg : GeoOk g) (hks : s.ks.length ≤ 1000) (hst : st.length ≤ 1000) : Ct Tryz.prog 147 [PP gs, .slice a st.length c] [ShC gs g s, sv eNat 3 st a c]
    (fun v L => ∃ d, DirL s d ∧ v = .bool (decide (cpl (srt (st ++ d)) ≤ s.r)) ∧ L = [ShC gs g s, sv eNat 3 st a c]) := by
  refine w_ct Tryz.func147 rfl Tryz.ntmps147 rfl fun w B => ?_
  have h116 := f116o (gs := gs) (g := g) (s := s)
  have h200 := f200 (l := st) (a := a) (c := c) (by omega)
  have h67 := f67 (gs := gs) (g := g) (s := s) hg hks
  refine W ?_
  refine cv h116 ?_
  refine W ?_
  refine cl' h200 ?_
  rintro _ _ ⟨a1, c1, rfl, rfl⟩
  refine W ?_
  refine cl' h67 ?_
  rintro _ _ ⟨d, a2, c2, rfl, rfl, hd⟩
  refine W ?_
  have hdl := hd.len
  refine w_ap eNat (sel_ : Sel (sv eNat 3 st a1 c1) _ _) (rd_sv (show sv eNat 3 d a2 c2 ∈ _ from mem_)) (by omega) (by omega) fun a3 c3 => ?_
  have h118 := f118 (l := st ++ d) (a := a3) (c := c3) (by rw [List.length_append]; omega)
  refine W ?_
  refine cl' h118 ?_
  rintro _ _ ⟨rfl, rfl⟩
  refine g_ent rfl (show Ent _ [ShC gs g s, sv eNat 3 st a c, sv eNat 3 (srt (st ++ d)) a3 c3] from ent_) ?_
  refine g_ex rfl Sel.hd fun ⟨gl, gm, mp⟩ => ?_
  refine g_pure rfl Sel.hd fun ho => ?_
  have h201 := f201 (l := srt (st ++ d)) (a := a3) (c := c3)
  rw [srt_len] at h201
  have h202 := f202o (gl := gl) (r := s.r) (ks := s.ks)
  refine W ?_
  refine w_dag [.q 0, .q 3, .q 4, .q 5, .q 6, .m 1 [3, 4, 5, 6], .q 2, .m 7 [2], .q 8, .q 9] (by decide +kernel) ?_
  refine W ?_
  refine dm fun E => ?_
  refine cl' h201 ?_
  rintro _ _ ⟨a4, c4, rfl, rfl⟩
  refine W ?_
  refine dm fun E => ?_
  refine cv h202 ?_
  refine W ?_
  refine finE (v := .bool (decide (((cpl (srt (st ++ d)) : Nat) : Int) ≤ (s.r : Nat)))) ⟨_, rfl, d, hd, ?_, rfl⟩ (ent_ex (gl, gm, mp) (ent_pur ho ent_))
  simp
end
end Go.Proofs.YtnilejkfbcnkkaaGreatDoor.V
end
section
namespace Go.Proofs.YtnilejkfbcnkkaaGreatDoor.V
variable [GlK]
open Go Go.RowKit

theorem nodup_le : ∀ {D D' : List Nat}, D.Nodup → (∀ x ∈ D, x ∈ D') → D.length ≤ D'.length
  | [], _, _, _ => Nat.zero_le _
  | x :: D, D', hn, hs => by
    obtain ⟨h1, h2⟩ := List.nodup_cons.1 hn
    have hx := hs x List.mem_cons_self
    have := nodup_le (D := D) (D' := D'.erase x) h2 fun y hy => (List.mem_erase_of_ne (by intro e; subst e; exact h1 hy)).2 (hs y (List.mem_cons_of_mem _ hy))
    rw [List.length_erase_of_mem hx] at this
    have hp := List.length_pos_of_mem hx
    simp only [List.length_cons]; omega
theorem ded_ex {l : List Nat} (hs : l.Pairwise (· ≤ ·)) : ∀ i, i < l.length → ∃ D : List Nat, D.Nodup ∧ (∀ x, x ∈ D ↔ x ∈ l.take (i + 1)) ∧ D.length = chg l (i + 1) + 1
  | 0, h => ⟨[l[0]], by simp, fun x => by
      rw [List.take_succ_eq_append_getElem h]; simp, by simp [chg]⟩
  | i + 1, h => by
    obtain ⟨D, h1, h2, h3⟩ := ded_ex hs i (by omega)
    have ht : l.take (i + 1 + 1) = l.take (i + 1) ++ [l[i + 1]] := List.take_succ_eq_append_getElem h
    have hti : l.take (i + 1) = l.take i ++ [l[i]] := List.take_succ_eq_append_getElem (by omega)
    by_cases e : l[i + 1] = l[i]
    · refine ⟨D, h1, fun x => ?_, by rw [h3, chg_eq h e]⟩
      rw [h2, ht, List.mem_append, List.mem_singleton]
      constructor
      · exact .inl
      · rintro (h' | h')
        · exact h'
        · rw [h', e, List.mem_take_iff_getElem]; exact ⟨i, by omega, rfl⟩
    · refine ⟨l[i + 1] :: D, List.nodup_cons.2 ⟨fun hm => ?_, h1⟩, fun x => ?_, by rw [List.length_cons, h3, chg_ne h e]⟩
      · rw [h2, List.mem_take_iff_getElem] at hm
        obtain ⟨p, hp, e2⟩ := hm
        have hpl : p < l.length := by omega
        have hle : l[p] ≤ l[i] := by
          by_cases e3 : p = i
          · subst e3; exact Nat.le_refl _
          · exact (List.pairwise_iff_getElem.1 hs) p i hpl (by omega) (by omega)
        have hle2 : l[i] ≤ l[i + 1] := (List.pairwise_iff_getElem.1 hs) i (i + 1) (by omega) h (by omega)
        omega
      · rw [List.mem_cons, h2, ht, List.mem_append, List.mem_singleton]
        exact Or.comm
/-- so many are different -/
theorem cpl_ex (l : List Nat) : ∃ D : List Nat, D.Nodup ∧ (∀ x, x ∈ D ↔ x ∈ l) ∧ D.length = cpl (srt l) := by
  by_cases h0 : (srt l).length = 0
  · refine ⟨[], List.nodup_nil, fun x => ?_, by unfold cpl; rw [if_pos h0]; rfl⟩
    rw [srt_len] at h0
    rw [List.eq_nil_of_length_eq_zero h0]
  · obtain ⟨D, h1, h2, h3⟩ := ded_ex (srt_sorted (l := l)) ((srt l).length - 1) (by omega)
    have e : (srt l).length - 1 + 1 = (srt l).length := by omega
    rw [e] at h2 h3
    refine ⟨D, h1, fun x => ?_, by unfold cpl; rw [if_neg h0, h3]⟩
    rw [h2, List.take_length, srt_perm.mem_iff]
theorem cpl_le {l D : List Nat} (h : ∀ x ∈ l, x ∈ D) : cpl (srt l) ≤ D.length := by
  obtain ⟨D0, h1, h2, h3⟩ := cpl_ex l
  rw [← h3]
  exact nodup_le h1 fun x hx => h x ((h2 x).1 hx)
theorem le_cpl {l D : List Nat} (hD : D.Nodup) (h : ∀ x ∈ D, x ∈ l) : D.length ≤ cpl (srt l) := by
  obtain ⟨D0, h1, h2, h3⟩ := cpl_ex l
  rw [← h3]
  exact nodup_le hD fun x hx => (h2 x).2 (h x hx)
end Go.Proofs.YtnilejkfbcnkkaaGreatDoor.V
end
