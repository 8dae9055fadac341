/- Proved: how cells are put on a shelf; how a stripe's dirty cells go home; how all dirty cells go home; the conditions stand in the statements. -/
import Derived.Test.YtnilejkfbcnkkaaGreatDoorM15
set_option linter.unusedVariables false
set_option linter.unusedSimpArgs false
set_option linter.unusedSectionVars false
section
set_option maxRecDepth 100000
set_option maxHeartbeats 2000000
namespace Go.Proofs.YtnilejkfbcnkkaaGreatDoor.V
variable [GlK]
open Go Go.RowKit
attribute [local irreducible] Yields cl blk pur rowc sv exC fo cnt

def inC (l : List Cel) (k : Nat) : Bool := l.any fun x => decide (x.s = k)
def inP (g : Geo) (l : List Cel) (k : Nat) : Bool := l.any fun x => decide (x.s = k) && decide (g.par x.s = x.m)
def tld (g : Geo) (l : List Cel) (k : Nat) : Option Nat := if inC l k then some (if inP g l k then 2 else 1) else none
theorem inP_inC {g : Geo} {l : List Cel} {k : Nat} (h : inP g l k = true) : inC l k = true := by
  unfold inP at h; unfold inC
  rw [List.any_eq_true] at h ⊢
  obtain ⟨x, hx, h⟩ := h
  exact ⟨x, hx, (Bool.and_eq_true_iff.1 h).1⟩
theorem tld_step {g : Geo} {l : List Cel} {x : Cel} {k : Nat} : tld g (l ++ [x]) k = if k = x.s then some (max ((tld g l k).getD 0) (if g.par x.s = x.m then 2 else 1)) else tld g l k := by
  have e1 : inC (l ++ [x]) k = (inC l k || decide (x.s = k)) := by unfold inC; simp [List.any_append]
  have e2 : inP g (l ++ [x]) k = (inP g l k || (decide (x.s = k) && decide (g.par x.s = x.m))) := by unfold inP; simp [List.any_append]
  unfold tld
  rw [e1, e2]
  by_cases hk : k = x.s
  · subst hk
    have := @inP_inC _ g l x.s
    by_cases hp : g.par x.s = x.m <;> cases h1 : inC l x.s <;> cases h2 : inP g l x.s <;> simp [h1, h2, hp] at this ⊢
  · have hk' : ¬ x.s = k := fun e => hk e.symm
    simp [hk, hk']
/-- what putting does, parities apart -/
structure PtR (s : Shf) (q : Nat) (l : List Cel) (s' : Shf) : Prop where
  r : s'.r = s.r
  pin : ∀ k, (k, true) ∈ s'.ks ↔ ((k, true) ∈ s.ks ∨ inC l k = true)
  F : ∀ k, ∃ b, (b = s.F k ∨ (b = .emp (s.F k).m ∧ (k, true) ∉ s.ks)) ∧ s'.F k = (l.filter fun x => decide (x.s = k)).foldl (fun ln x => ln.put x.m x.b q) b
theorem PtR.refl {s : Shf} {q : Nat} : PtR s q [] s := ⟨rfl, fun k => by simp [inC], fun k => ⟨s.F k, .inl rfl, rfl⟩⟩
theorem pinL_mem {ks : List (Nat × Bool)} {k k' : Nat} (hk : k ∈ ks.map Prod.fst) : (k', true) ∈ pinL ks k true ↔ (k' = k ∨ (k', true) ∈ ks) := by
  unfold pinL
  rw [List.mem_map]
  constructor
  · rintro ⟨p, hp, e⟩
    by_cases h : p.1 = k
    · rw [if_pos h] at e; left; have := congrArg Prod.fst e; simp at this; omega
    · rw [if_neg h] at e; right; rw [← e]; exact hp
  · rintro (rfl | h)
    · obtain ⟨p, hp, e⟩ := List.mem_map.1 hk
      exact ⟨p, hp, by rw [if_pos e, e]⟩
    · by_cases e : k' = k
      · exact ⟨_, h, by rw [if_pos e]⟩
      · exact ⟨_, h, by rw [if_neg e]⟩
theorem PtR.step {g : Geo} {s s' t : Shf} {q : Nat} {l : List Cel} {x : Cel} {mp1 : List (Nat × Nat)} (h : PtR s q l s') (h1 : ShOk g s' mp1) (hsm : ∀ k, (s.F k).m = g.m) (ht : TchR g s' x.s t) (hxt : x.s ∈ t.ks.map Prod.fst) :
    PtR s q (l ++ [x]) { t with ks := pinL t.ks x.s true, F := fset t.F x.s ((t.F x.s).put x.m x.b q) } := by
  have tpin : ∀ k, (k, true) ∈ t.ks ↔ (k, true) ∈ s'.ks := fun k => by
    rcases ht.2 with ⟨_, h2, _⟩ | ⟨_, _, h2, _⟩ | ⟨_, k0, rest, h2, h3, _⟩
    · exact h2.mem_iff
    · rw [h2]; simp
    · rw [h3, h2.mem_iff]; simp
  have tF : ∀ k, t.F k = s'.F k ∨ (t.F k = .emp g.m ∧ (k, true) ∉ s'.ks) := fun k => by
    rcases ht.2 with ⟨_, _, h2⟩ | ⟨_, _, _, h2⟩ | ⟨_, k0, rest, h2, _, h3⟩
    · exact .inl (by rw [h2])
    · exact .inl (by rw [h2])
    · by_cases e : k = k0
      · subst e
        refine .inr ⟨by rw [h3, fset_eq], fun hm => ?_⟩
        have hp : (s'.ks.map Prod.fst).Perm (k :: rest.map Prod.fst) := h2.map Prod.fst
        have hn := (List.nodup_cons.1 ((hp.nodup_iff).1 h1.kd)).1
        rcases List.mem_cons.1 (h2.mem_iff.1 hm) with e | e
        · cases e
        · exact hn (List.mem_map.2 ⟨_, e, rfl⟩)
      · exact .inl (by rw [h3, fset_ne e])
  refine ⟨ht.1.trans h.r, fun k => ?_, fun k => ?_⟩
  · show (k, true) ∈ pinL t.ks x.s true ↔ _
    rw [pinL_mem hxt, tpin, h.pin]
    have e1 : inC (l ++ [x]) k = (inC l k || decide (x.s = k)) := by unfold inC; simp [List.any_append]
    rw [e1]
    by_cases e : k = x.s
    · subst e; simp
    · have e' : ¬ x.s = k := fun h => e h.symm
      simp [e, e']
  · have hT : ∃ b, (b = s.F k ∨ (b = .emp (s.F k).m ∧ (k, true) ∉ s.ks)) ∧ t.F k = (l.filter fun x => decide (x.s = k)).foldl (fun ln x => ln.put x.m x.b q) b := by
      rcases tF k with e | ⟨e, hno⟩
      · rw [e]; exact h.F k
      · have hno' : ¬ ((k, true) ∈ s.ks ∨ inC l k = true) := fun hh => hno ((h.pin k).2 hh)
        have hf : (l.filter fun x => decide (x.s = k)) = [] := by
          rw [List.filter_eq_nil_iff]
          intro y hy hd
          exact hno' (.inr (by unfold inC; rw [List.any_eq_true]; exact ⟨y, hy, hd⟩))
        refine ⟨.emp (s.F k).m, .inr ⟨rfl, fun hh => hno' (.inl hh)⟩, ?_⟩
        rw [hf, e, hsm]; rfl
    obtain ⟨b, hb, e⟩ := hT
    refine ⟨b, hb, ?_⟩
    show fset t.F x.s ((t.F x.s).put x.m x.b q) k = _
    rw [List.filter_append, List.foldl_append]
    by_cases ek : k = x.s
    · subst ek
      rw [fset_eq, ← e]
      simp
    · have ek' : ¬ x.s = k := fun h => ek h.symm
      rw [fset_ne ek, e]
      simp [ek']
theorem f209s {g : Geo} {s : Shf} {mp : List (Nat × Nat)} {k i gx : Nat} (ho : ShOk g s mp) (hlk : lkp mp k = some gx) (hi : i < g.m) (hm : g.m ≤ 16) : Ct Tryz.prog 209 [lkV mp k, I i] [LnsC mp s.F] (fun v L => v = I 0 ∧ L = [LnsC mp (fset s.F k ((s.F k).drop i))]) := by
  unfold lkV
  rw [hlk]
  refine Ct.ent (Ct.frame (K := [LnsC (cutL mp k) s.F]) (f209 (g := gx) (l := s.F k) (i := i) (by rw [ho.ln]; exact hi) (by rw [ho.ln]; exact hm)) (lns_out ho.nd hlk)) ?_
  rintro _ _ ⟨_, ⟨rfl, rfl⟩, rfl⟩
  exact ⟨_, ⟨rfl, rfl⟩, lns_in ho.nd hlk⟩
def fgt (g : Geo) (F : Nat → Ln) (done : List (Nat × Nat)) : Nat → Ln := fun k => if done.any (fun p => decide (p.1 = k) && decide (p.2 < 2)) then (F k).drop (g.par k) else F k
theorem fgt_no {g : Geo} {F : Nat → Ln} {done : List (Nat × Nat)} {p : Nat × Nat} (h : ¬ p.2 < 2) : fgt g F (done ++ [p]) = fgt g F done := by
  funext k
  have e : (done ++ [p]).any (fun p => decide (p.1 = k) && decide (p.2 < 2)) = done.any (fun p => decide (p.1 = k) && decide (p.2 < 2)) := by rw [List.any_append]; simp [h]
  show (if _ then _ else _) = (if _ then _ else _)
  rw [e]
theorem fgt_yes {g : Geo} {F : Nat → Ln} {done : List (Nat × Nat)} {p : Nat × Nat} (h : p.2 < 2) (hn : ∀ q ∈ done, q.1 ≠ p.1) : fgt g F (done ++ [p]) = fset (fgt g F done) p.1 ((fgt g F done p.1).drop (g.par p.1)) := by
  funext k
  by_cases e : k = p.1
  · subst e
    rw [fset_eq]
    have h0 : done.any (fun q => decide (q.1 = p.1) && decide (q.2 < 2)) = false := by
      rw [List.any_eq_false]
      intro q hq; simp [hn q hq]
    unfold fgt
    simp [List.any_append, h, h0]
  · rw [fset_ne e]
    have e' : ¬ p.1 = k := fun h => e h.symm
    have e2 : (done ++ [p]).any (fun p => decide (p.1 = k) && decide (p.2 < 2)) = done.any (fun p => decide (p.1 = k) && decide (p.2 < 2)) := by rw [List.any_append]; simp [e']
    show (if _ then _ else _) = (if _ then _ else _)
    rw [e2]
/-- the parities that were not told are forgotten -/
def Shf.forget (s : Shf) (g : Geo) (cs : List Cel) : Shf := { s with F := fun k => if inC cs k = true ∧ inP g cs k = false then (s.F k).drop (g.par k) else s.F k }
/-- the cells have their places -/
def CelIn (g : Geo) (cs : List Cel) : Prop := ∀ x ∈ cs, x.s < g.s ∧ x.m < g.m
section
variable {gs gh gb : Nat} {s : Shf} {g : Geo}
theorem f153 {cs : List Cel} {a : Option Addr} {c q : Nat} (hg : GeoOk g) (hks : s.ks.length ≤ 1000) (hcs : cs.length ≤ 1000) (hin : CelIn g cs) (hq : 0 < q) (hpin : ∀ k, (k, true) ∈ s.ks → (s.F k).drt = true) :
    Ct Tryz.prog 153 [PP gs, U q, .slice a cs.length c] [ShC gs g s, sv eCel 163 cs a c] (fun v L => (∃ s1, PtR s q cs s1 ∧ v = I 0 ∧ L = [ShC gs g (s1.forget g cs), sv eCel 163 cs a c]) ∨
      (∃ d, DirL s d ∧ s.r < cpl (srt (cs.map Cel.s ++ d)) ∧ v = I 10 ∧ L = [ShC gs g s, sv eCel 163 cs a c])) := by
  refine w_ct Tryz.func153 rfl Tryz.ntmps153 rfl fun w B => ?_
  have h116 := f116o (gs := gs) (g := g) (s := s)
  refine W ?_
  refine cv h116 ?_
  refine g_ex rfl Sel.hd fun ⟨gl, gm, mp⟩ => ?_
  refine g_pure rfl Sel.hd fun ho => ?_
  refine W ?_
  refine w_mm (fun x : Nat => I x) rfl fun gp => ?_
  refine W ?_
  refine g_nil eNat 3 rfl ?_
  refine w_loop (γ := Nat × Option Addr × Nat × List (Nat × Nat)) (fun ⟨j, a', c', pm⟩ => [(0, PP gs), (1, U q), (2, .slice a cs.length c), (7, .slice a' j c'), (8, .map (some gp)), (24, .slice a cs.length c), (25, I cs.length), (26, I j)])
    (fun ⟨j, a', c', pm⟩ => [cl gs (shL g gl gm) 170, LruO gl s.r s.ks, mpC (fun g => PP g) gm mp, LnsC mp s.F, sv eCel 163 cs a c, sv eNat 3 ((cs.take j).map Cel.s) a' c', mpC (fun x : Nat => I x) gp pm]) (fun ⟨j, a', c', pm⟩ => j ≤ cs.length ∧ (pm.map Prod.fst).Nodup ∧ ∀ k, lkp pm k = tld g (cs.take j) k) (fun x => cs.length - x.1) (0, none, 0, []) sl_ ent_
    ⟨Nat.zero_le _, List.nodup_nil, fun k => rfl⟩ fun ⟨j, a', c', pm⟩ B ⟨hj, hnd, hpm⟩ => ?_
  dsimp only at hj hnd hpm ⊢
  refine W ?_
  refine w_if rfl (fun h => ?_) (fun h => ?_)
  · have hlt : j < cs.length := by omega
    have hx := hin cs[j] (List.getElem_mem hlt)
    have h123 := f123 (gs := gs) (g := g) (gl := gl) (gm := gm) hx.1 hx.2
    have h145 := f145 hg hx.1
    refine w_skip ?_
    refine g_svp rfl (sel_ : Sel (sv eCel 163 cs a c) _ _) (by omega) fun ga hga => ?_
    subst hga
    refine W1 fun g10 => ?_
    refine cv h123 ?_
    refine W ?_
    refine w_bs1 eNat cs[j].s rfl rfl rfl (by decide) fun gt => ?_
    refine W ?_
    refine w_ap eNat (sel_ : Sel (sv eNat 3 _ a' c') _ _) (rd_row (show rowc eNat 3 [cs[j].s] gt 1 ∈ _ from mem_)) (by simp; omega) (by simp; omega) (hn0 := by simp; omega) fun a2 c2 => ?_
    refine W ?_
    first
      | refine cv h145 ?_
      | refine cq h145 ?_
    have e1 : (cs.take j).map Cel.s ++ [cs[j].s] = (cs.take (j + 1)).map Cel.s := by rw [List.take_succ_eq_append_getElem hlt, List.map_append]; rfl
    have e2 : ((cs.take (j + 1)).map Cel.s).length = j + 1 := by simp; omega
    have hstep : ∀ (t : Nat), t = (if g.par cs[j].s = cs[j].m then 2 else 1) → ∀ k, lkp (putL pm cs[j].s (max ((tld g (cs.take j) cs[j].s).getD 0) t)) k = tld g (cs.take (j + 1)) k := by
      rintro t rfl k
      rw [lkp_putL, List.take_succ_eq_append_getElem hlt, tld_step, hpm]
      by_cases hk : k = cs[j].s
      · rw [if_pos hk, if_pos hk, hk]
      · rw [if_neg hk, if_neg hk]
    have eo : optV (fun x : Nat => I x) (.int .i64 0) (lkp pm cs[j].s) = I ((tld g (cs.take j) cs[j].s).getD 0) := by rw [hpm]; cases tld g (cs.take j) cs[j].s <;> rfl
    rw [e1, e2]
    refine W ?_
    refine w_if rfl (fun hp => ?_) (fun hp => ?_)
    · refine W ?_
      refine w_y rfl rfl rfl (y_lk0 rfl rfl mem_) ?_
      rw [eo]
      refine W ?_
      refine w_y rfl rfl rfl (y_max (c := ((max ((tld g (cs.take j) cs[j].s).getD 0) 2 : Nat) : Int)) rfl rfl (by omega)) ?_
      refine W ?_
      refine w_mu (a := max ((tld g (cs.take j) cs[j].s).getD 0) 2) (v := I (max ((tld g (cs.take j) cs[j].s).getD 0) 2 : Nat)) rfl rfl rfl rfl upd_ ?_
      refine W ?_
      exact w_land rfl (w_round (j + 1, a2, c2, putL pm cs[j].s (max ((tld g (cs.take j) cs[j].s).getD 0) 2)) ⟨hlt, putL_nd hnd, hstep 2 (by rw [if_pos (by omega)])⟩ (by show cs.length - (j + 1) < cs.length - j; omega) sl_ (Ent.sel sel_ (Ent.sel sel_ (Ent.sel sel_ (Ent.sel sel_ (Ent.trans (Ent.sel (sel_ : Sel (rowc eCel 163 cs ga c) _ _) (.refl _)) (ent_sv ent_)))))))
    · refine W ?_
      refine w_y rfl rfl rfl (y_lk0 rfl rfl mem_) ?_
      rw [eo]
      refine W ?_
      refine w_y rfl rfl rfl (y_max (c := ((max ((tld g (cs.take j) cs[j].s).getD 0) 1 : Nat) : Int)) rfl rfl (by omega)) ?_
      refine W ?_
      refine w_mu (a := max ((tld g (cs.take j) cs[j].s).getD 0) 1) (v := I (max ((tld g (cs.take j) cs[j].s).getD 0) 1 : Nat)) rfl rfl rfl rfl upd_ ?_
      refine W ?_
      exact w_land rfl (w_round (j + 1, a2, c2, putL pm cs[j].s (max ((tld g (cs.take j) cs[j].s).getD 0) 1)) ⟨hlt, putL_nd hnd, hstep 1 (by rw [if_neg (by omega)])⟩ (by show cs.length - (j + 1) < cs.length - j; omega) sl_ (Ent.sel sel_ (Ent.sel sel_ (Ent.sel sel_ (Ent.sel sel_ (Ent.trans (Ent.sel (sel_ : Sel (rowc eCel 163 cs ga c) _ _) (.refl _)) (ent_sv ent_)))))))
  · have hjj : j = cs.length := by omega
    subst hjj
    refine W ?_
    rw [decide_eq_false (show ¬ ((q : Nat) : Int) = 0 by omega)]
    refine W ?_
    rw [List.take_length]
    refine g_ent rfl (show Ent _ [ShC gs g s, sv eNat 3 (cs.map Cel.s) a' c', sv eCel 163 cs a c, mpC (fun x : Nat => I x) gp pm] from ent_ex (gl, gm, mp) (ent_pur ho ent_)) ?_
    have h147 := f147 (gs := gs) (g := g) (s := s) (st := cs.map Cel.s) (a := a') (c := c') hg hks (by rw [List.length_map]; omega)
    rw [List.length_map] at h147
    refine cl' h147 ?_
    rintro _ _ ⟨d, hd, rfl, rfl⟩
    by_cases hfit : cpl (srt (cs.map Cel.s ++ d)) ≤ s.r
    · rw [decide_eq_true hfit]
      refine W ?_
      refine w_loop (γ := Nat × Shf) (fun ⟨j, s'⟩ => [(0, PP gs), (1, U q), (8, .map (some gp)), (77, .slice a cs.length c), (78, I cs.length), (79, I j)])
        (fun ⟨j, s'⟩ => [ShC gs g s', sv eCel 163 cs a c, mpC (fun x : Nat => I x) gp pm]) (fun ⟨j, s'⟩ => j ≤ cs.length ∧ PtR s q (cs.take j) s') (fun x => cs.length - x.1) (0, s) sl_ ent_ ⟨Nat.zero_le _, .refl⟩ fun ⟨j, s'⟩ B ⟨hj, hr⟩ => ?_
      dsimp only at hj hr ⊢
      refine W ?_
      refine w_if rfl (fun h => ?_) (fun h => ?_)
      · have hlt : j < cs.length := by omega
        have hx := hin cs[j] (List.getElem_mem hlt)
        have h125 := f125 (gs := gs) (s := s') (k := cs[j].s) hg
        refine w_skip ?_
        refine g_svp rfl (sel_ : Sel (sv eCel 163 cs a c) _ _) (by omega) fun ga hga => ?_
        subst hga
        refine g_ex rfl (sel_ : Sel (ShC gs g s') _ _) fun ⟨gl1, gm1, mp1⟩ => ?_
        refine g_pure rfl Sel.hd fun ho1 => ?_
        refine g_ent rfl (show Ent _ [ShC gs g s', rowc eCel 163 cs ga c, mpC (fun x : Nat => I x) gp pm] from ent_ex (gl1, gm1, mp1) (ent_pur ho1 ent_)) ?_
        have htk : cs.take (j + 1) = cs.take j ++ [cs[j]] := List.take_succ_eq_append_getElem hlt
        refine W1 fun g15 => ?_
        refine cl' h125 ?_
        rintro _ _ (⟨t, gx, rfl, rfl, ht⟩ | ⟨rfl, rfl, h1, h2, h3⟩)
        · refine g_ex rfl (sel_ : Sel (ShR gs g t cs[j].s gx) _ _) fun ⟨gl2, gm2, mp2⟩ => ?_
          refine g_pure rfl Sel.hd fun ⟨ho2, hlk2⟩ => ?_
          have hm2 := ho2.ln cs[j].s
          have hkm : cs[j].s ∈ t.ks.map Prod.fst := (ho2.key _).1 (by rw [hlk2]; rfl)
          have h207 := f207 (g := gx) (l := t.F cs[j].s) (i := cs[j].m) (x := cs[j].b) (q := q) (by rw [hm2]; exact hx.2) (by rw [hm2]; exact hg.m16) hq
          have h208 := f208 (gl := gl2) (r := t.r) (ks := t.ks) (k := cs[j].s) (b := true)
          have hok := (ho2.set (k := cs[j].s) (l := (t.F cs[j].s).put cs[j].m cs[j].b q) (by exact hm2) hkm).pin (k := cs[j].s) (b := true)
          refine W ?_
          refine cl' h207 ?_
          rintro _ _ ⟨rfl, rfl⟩
          refine W ?_
          refine cl' h208 ?_
          rintro _ _ ⟨⟨e8, rfl⟩, rfl⟩
          refine g_ent rfl (show Ent _ [ShC gs g { t with ks := pinL t.ks cs[j].s true, F := fset t.F cs[j].s ((t.F cs[j].s).put cs[j].m cs[j].b q) }, rowc eCel 163 cs ga c, mpC (fun x : Nat => I x) gp pm] from
            ent_ex (gl2, gm2, mp2) (ent_pur hok (Ent.sel sel_ (Ent.sel sel_ (Ent.sel sel_ (Ent.trans (Ent.sel (sel_ : Sel (cl gx (lnL ((t.F cs[j].s).put cs[j].m cs[j].b q)) 228) _ _) (Ent.sel (sel_ : Sel (LnsC (cutL mp2 cs[j].s) t.F) _ _) ent_)) (lns_in ho2.nd hlk2))))))) ?_
          refine W ?_
          exact w_land rfl (w_round (j + 1, _) ⟨hlt, by rw [htk]; exact hr.step ho1 ho.ln ht hkm⟩ (by show cs.length - (j + 1) < cs.length - j; omega) sl_ (Ent.sel sel_ (Ent.trans (Ent.sel (sel_ : Sel (rowc eCel 163 cs ga c) _ _) ent_) (ent_sv (Ent.refl _)))))
        · exfalso
          have hn : (cs[j].s :: s'.ks.map Prod.fst).Nodup := List.nodup_cons.2 ⟨h1, ho1.kd⟩
          have := le_cpl (l := cs.map Cel.s ++ d) hn fun k hk => ?_
          · rw [List.length_cons, List.length_map, h2, hr.r] at this
            omega
          · rw [List.mem_append]
            rcases List.mem_cons.1 hk with rfl | hk
            · exact .inl (List.mem_map.2 ⟨_, List.getElem_mem hlt, rfl⟩)
            · obtain ⟨⟨k0, bo⟩, hp, rfl⟩ := List.mem_map.1 hk
              have hbo := h3 _ hp
              dsimp only at hbo
              subst hbo
              rcases (hr.pin k0).1 hp with h' | h'
              · exact .inr ((hd.mem k0).2 (hpin k0 h'))
              · unfold inC at h'
                rw [List.any_eq_true] at h'
                obtain ⟨y, hy, e⟩ := h'
                exact .inl (List.mem_map.2 ⟨y, List.mem_of_mem_take hy, of_decide_eq_true e⟩)
      · have hjj : j = cs.length := by omega
        subst hjj
        rw [List.take_length] at hr
        rw [List.take_length] at hpm
        refine g_ex rfl (sel_ : Sel (ShC gs g s') _ _) fun ⟨gl1, gm1, mp1⟩ => ?_
        refine g_pure rfl Sel.hd fun ho1 => ?_
        refine W ?_
        refine w_rg rfl rfl (sel_ : Sel (mpC (fun x : Nat => I x) gp pm) _ _) fun gi => ?_
        refine W ?_
        refine w_loop (γ := Option (Nat × Nat) × List (Nat × Nat) × List (Nat × Nat)) (fun ⟨cur, done, rem⟩ => [(0, PP gs), (106, PP gi)])
          (fun ⟨cur, done, rem⟩ => [rgC (fun x : Nat => I x) gi gp pm cur rem, cl gs (shL g gl1 gm1) 170, LruO gl1 s'.r s'.ks, mpC (fun g => PP g) gm1 mp1, LnsC mp1 (fgt g s'.F done), sv eCel 163 cs a c])
          (fun ⟨cur, done, rem⟩ => pm.Perm (done ++ rem) ∧ ShOk g { s' with F := fgt g s'.F done } mp1) (fun x => x.2.2.length) (none, [], pm) sl_ ent_ ⟨by simp, ho1⟩ fun ⟨cur, done, rem⟩ B ⟨hp, ho3⟩ => ?_
        dsimp only at hp ho3 ⊢
        refine W ?_
        refine w_nx rfl rfl (sel_ : Sel (rgC (fun x : Nat => I x) gi gp pm cur rem) _ _) (fun h0 => ?_) (fun p rem' h1 => ?_)
        · subst h0
          rw [List.append_nil] at hp
          refine W ?_
          have hF : fgt g s'.F done = (s'.forget g cs).F := by
            funext k
            show (if _ then _ else _) = (if _ then _ else _)
            have hk := hpm k
            have hiff : (done.any (fun p => decide (p.1 = k) && decide (p.2 < 2)) = true) ↔ (inC cs k = true ∧ inP g cs k = false) := by
              rw [List.any_eq_true]
              constructor
              · rintro ⟨p, hp', h'⟩
                obtain ⟨h2, h3⟩ := Bool.and_eq_true_iff.1 h'
                have h2 := of_decide_eq_true h2
                have h3 := of_decide_eq_true h3
                subst h2
                have := lkp_of hnd (hp.mem_iff.2 hp')
                rw [this] at hk
                unfold tld at hk
                split at hk
                · rename_i hc
                  refine ⟨hc, ?_⟩
                  cases hP : inP g cs p.1
                  · rfl
                  · rw [hP] at hk; simp at hk; omega
                · cases hk
              · rintro ⟨h2, h3⟩
                unfold tld at hk
                rw [if_pos h2, h3] at hk
                exact ⟨(k, 1), hp.mem_iff.1 (lkp_mem hk), by simp⟩
            by_cases hc : inC cs k = true ∧ inP g cs k = false
            · rw [if_pos (hiff.2 hc), if_pos hc]
            · rw [if_neg (fun h => hc (hiff.1 h)), if_neg hc]
          rw [hF]
          rw [hF] at ho3
          exact finE ⟨_, rfl, .inl ⟨s', hr, rfl, rfl⟩⟩ (ent_ex (gl1, gm1, mp1) (ent_pur ho3 ent_))
        · have hpm' : p ∈ pm := hp.mem_iff.2 (List.mem_append_right _ (h1.mem_iff.2 List.mem_cons_self))
          have hlp := lkp_of hnd hpm'
          have hinc : inC cs p.1 = true := by
            have := hpm p.1
            rw [hlp] at this
            unfold tld at this
            split at this
            · assumption
            · cases this
          have hps : p.1 < g.s := by
            unfold inC at hinc
            rw [List.any_eq_true] at hinc
            obtain ⟨y, hy, e⟩ := hinc
            rw [← of_decide_eq_true e]
            exact (hin y hy).1
          have hkm : p.1 ∈ s'.ks.map Prod.fst := List.mem_map.2 ⟨_, (hr.pin p.1).2 (.inr hinc), rfl⟩
          obtain ⟨gx, hlk⟩ := Option.isSome_iff_exists.1 ((ho1.key p.1).2 hkm)
          have hgm3 := hg.m3
          have hpar : g.par p.1 < g.m := by unfold Geo.par; omega
          have h145 := f145 hg hps
          have h209 := f209s (i := g.par p.1) ho3 hlk hpar hg.m16
          have hp' : pm.Perm ((done ++ [p]) ++ rem') := by
            rw [List.append_assoc]
            exact hp.trans (List.Perm.append_left _ h1)
          have hlt : rem'.length < rem.length := by have := h1.length_eq; simp at this; omega
          have hne : ∀ q ∈ done, q.1 ≠ p.1 := by
            intro q hq e
            have hn := ((hp'.map Prod.fst).nodup_iff).1 hnd
            rw [List.map_append, List.map_append] at hn
            have hn := (List.nodup_append.1 (List.nodup_append.1 hn).1).2.2
            exact hn q.1 (List.mem_map_of_mem hq) p.1 (by simp) e
          refine W ?_
          refine w_y rfl rfl rfl (y_en rfl mem_) ?_
          refine W ?_
          refine cv h145 ?_
          refine W ?_
          refine w_if rfl (fun h2 => ?_) (fun h2 => ?_)
          · refine W ?_
            refine w_y rfl rfl rfl (y_lk0 rfl rfl mem_) ?_
            refine W ?_
            refine cl' h209 ?_
            rintro _ _ ⟨rfl, rfl⟩
            refine W ?_
            have e9 := fgt_yes (g := g) (F := s'.F) (done := done) (p := p) (by omega) hne
            refine w_land rfl (w_round (some p, done ++ [p], rem') ⟨hp', by rw [e9]; exact ho3.set (k := p.1) (l := (fgt g s'.F done p.1).drop (g.par p.1)) (by exact ho3.ln p.1) hkm⟩ hlt sl_ ?_)
            rw [e9]
            exact ent_
          · refine W ?_
            have e9 := fgt_no (g := g) (F := s'.F) (done := done) (p := p) (by omega)
            refine w_land rfl (w_round (some p, done ++ [p], rem') ⟨hp', by rw [e9]; exact ho3⟩ hlt sl_ ?_)
            rw [e9]
            exact ent_
    · rw [decide_eq_false hfit]
      refine W ?_
      exact fin ⟨_, rfl, .inr ⟨d, hd, by omega, rfl, rfl⟩⟩
end
end Go.Proofs.YtnilejkfbcnkkaaGreatDoor.V
end
section
set_option maxRecDepth 100000
set_option maxHeartbeats 2000000
namespace Go.Proofs.YtnilejkfbcnkkaaGreatDoor.V
variable [GlK]
open Go Go.RowKit
attribute [local irreducible] Yields cl blk pur rowc sv exC fo cnt

theorem HB.set {h : Hul} {b : Ben} (hh : HB h b) {m i k : Nat} {dv : Dev} {x : Blk} (hm : m < h.r.g.m) (hd : b.ds[m]? = some dv) : HB h ⟨b.ds.set m (dv.set i x), k⟩ := by
  have hl := (List.getElem?_eq_some_iff.1 hd).1
  refine ⟨hh.ok, by simpa using hh.len, fun j dv' hj hd' => ?_⟩
  by_cases ej : j = m
  · subst ej
    simp only [List.getElem?_set_self hl] at hd'
    cases hd'; exact hh.n j dv hm hd
  · simp only [List.getElem?_set_ne (Ne.symm ej)] at hd'
    exact hh.n j dv' hj hd'
theorem BE.rd {m c : Nat} {b b' : Ben} (h : BE m c b b') {j s : Nat} (hj : j < m) (hs : 2 ≤ s) : b'.rd j s = b.rd j s := by
  unfold Ben.rd
  cases e : b.ds[j]? with
  | none =>
    have : b'.ds[j]? = none := by rw [List.getElem?_eq_none_iff] at e ⊢; rw [h.len]; exact e
    rw [this]
  | some dv =>
    obtain ⟨dv', h1, _, _, h4⟩ := h.dv j dv e
    rw [h1]; exact h4 hj s hs
theorem set_rd {b : Ben} {m i k : Nat} {x : Blk} {dv : Dev} (hd : b.ds[m]? = some dv) (j s : Nat) : (⟨b.ds.set m (dv.set i x), k⟩ : Ben).rd j s = if j = m ∧ s = i then x else b.rd j s := by
  have hl := (List.getElem?_eq_some_iff.1 hd).1
  unfold Ben.rd
  by_cases e : j = m
  · subst e
    simp only [List.getElem?_set_self hl, hd, true_and]
    rfl
  · simp only [List.getElem?_set_ne (Ne.symm e), e, false_and, if_false]
theorem set_dead {b : Ben} {m i k : Nat} {x : Blk} {dv : Dev} (hd : b.ds[m]? = some dv) : (⟨b.ds.set m (dv.set i x), k⟩ : Ben).dead = b.dead := by
  have hl := (List.getElem?_eq_some_iff.1 hd).1
  funext j
  unfold Ben.dead
  by_cases e : j = m
  · subst e
    simp only [List.getElem?_set_self hl, hd]
    rfl
  · simp only [List.getElem?_set_ne (Ne.symm e)]
/-- members may be lost, and only dead ones; nothing comes back -/
structure MO (h : Hul) (b : Ben) (h' : Hul) (b' : Ben) : Prop where
  g : h'.r.g = h.r.g
  d : b'.dead = b.dead
  gone : h'.r.gone = h.r.gone
  st : ∀ j, h'.r.st j = h.r.st j ∨ (j < h.r.g.m ∧ b.dead j = true ∧ h'.r.st j = 1)
  has : ∀ m n, m < 16 → h.r.has m n = false → h'.r.has m n = false
  n : ∀ i : Nat, (b'.ds[i]?).map Dev.n = (b.ds[i]?).map Dev.n
  k1 : b.k ≤ b'.k
  cur : h'.r.cur = h.r.cur ∨ ∀ j, j < 16 → h'.r.st j ≠ 2
theorem MO.refl {h : Hul} {b : Ben} : MO h b h b := ⟨rfl, rfl, rfl, fun _ => .inl rfl, fun _ _ _ h => h, fun _ => rfl, Nat.le_refl _, .inl rfl⟩
theorem MO.trans {h h' h'' : Hul} {b b' b'' : Ben} (p : MO h b h' b') (q : MO h' b' h'' b'') : MO h b h'' b'' := by
  refine ⟨q.g.trans p.g, q.d.trans p.d, q.gone.trans p.gone, fun j => ?_, fun m n hm hf => q.has m n hm (p.has m n hm hf), fun i => (q.n i).trans (p.n i), Nat.le_trans p.k1 q.k1, ?_⟩
  · rcases q.st j with e | ⟨e1, e2, e3⟩
    · rcases p.st j with f | ⟨f1, f2, f3⟩
      · exact .inl (e.trans f)
      · exact .inr ⟨f1, f2, e.trans f3⟩
    · exact .inr ⟨by rw [← p.g]; exact e1, by rw [← p.d]; exact e2, e3⟩
  · rcases q.cur with e | e
    · rcases p.cur with f | f
      · exact .inl (e.trans f)
      · right
        intro j hj
        rcases q.st j with g | ⟨_, _, g⟩
        · rw [g]; exact f j hj
        · rw [g]; decide
    · exact .inr e
theorem BE.sz {m c : Nat} {b b' : Ben} (h : BE m c b b') (i : Nat) : (b'.ds[i]?).map Dev.n = (b.ds[i]?).map Dev.n := by
  cases e : b.ds[i]? with
  | none =>
    have : b'.ds[i]? = none := by rw [List.getElem?_eq_none_iff] at e ⊢; rw [h.len]; exact e
    rw [this]
  | some dv =>
    obtain ⟨dv', h1, h2, _⟩ := h.dv i dv e
    rw [h1]; simp [h2]
theorem set_sz {b : Ben} {m i k : Nat} {x : Blk} {dv : Dev} (hd : b.ds[m]? = some dv) (j : Nat) : (((⟨b.ds.set m (dv.set i x), k⟩ : Ben).ds)[j]?).map Dev.n = (b.ds[j]?).map Dev.n := by
  have hl := (List.getElem?_eq_some_iff.1 hd).1
  by_cases e : j = m
  · subst e
    simp only [List.getElem?_set_self hl, hd]
    rfl
  · simp only [List.getElem?_set_ne (Ne.symm e)]
theorem HS.mo {c : Nat} {h h' : Hul} {b b' : Ben} (s : HS c h b h' b') : MO h b h' b' := ⟨s.re.g, s.be.dead, s.re.gone, s.re.st, fun m n hm hf => s.re.has hm hf, s.be.sz, s.be.k1, (match s.re.cur with | .inl e => .inl e | .inr e => .inr e.2)⟩
theorem WrQ.mo {h h' : Hul} {b b' : Ben} {n m : Nat} {x : Blk} {v : Value} (q : WrQ h b n m x h' b' v) : MO h b h' b' := by
  rcases q with ⟨_, rfl, _, (⟨_, rfl⟩ | ⟨_, _, dv, hd, rfl⟩)⟩ | ⟨hs, _⟩
  · exact .refl
  · exact ⟨rfl, set_dead hd, rfl, fun _ => .inl rfl, fun _ _ _ h => h, set_sz hd, by show b.k ≤ b.k + 1; omega, .inl rfl⟩
  · exact hs.mo
/-- what each writing keeps -/
structure HK (c : Nat) (h : Hul) (b : Ben) (h' : Hul) (b' : Ben) : Prop where
  hb : HB h' b'
  g : h'.r.g = h.r.g
  id : h'.id = h.id
  k : b'.k ≤ b.k + c
  mo : MO h b h' b'
theorem WrQ.hk {h h' : Hul} {b b' : Ben} {n m : Nat} {x : Blk} {v : Value} (hh : HB h b) (hm : m < h.r.g.m) (hq : WrQ h b n m x h' b' v) : HK 600 h b h' b' := by
  have hmo := hq.mo
  rcases hq with ⟨_, rfl, _, (⟨_, rfl⟩ | ⟨_, _, dv, hd, rfl⟩)⟩ | ⟨hs, _⟩
  · exact ⟨hh, rfl, rfl, by omega, hmo⟩
  · exact ⟨hh.set hm hd, rfl, rfl, by show b.k + 1 ≤ b.k + 600; omega, hmo⟩
  · exact ⟨hh.st hs, hs.re.g, hs.id, hs.be.k2, hmo⟩
theorem HK.trans {c c' : Nat} {h h' h'' : Hul} {b b' b'' : Ben} (s : HK c h b h' b') (s' : HK c' h' b' h'' b'') : HK (c + c') h b h'' b'' :=
  ⟨s'.hb, s'.g.trans s.g, s'.id.trans s.id, by have := s.k; have := s'.k; omega, s.mo.trans s'.mo⟩
theorem HK.mono {c c' : Nat} {h h' : Hul} {b b' : Ben} (s : HK c h b h' b') (hc : c ≤ c') : HK c' h b h' b' := ⟨s.hb, s.g, s.id, by have := s.k; omega, s.mo⟩
/-- cells written one behind the other -/
inductive WrS : List Cel → Hul → Ben → Hul → Ben → Prop
  | nil {h : Hul} {b : Ben} : WrS [] h b h b
  | snoc {l : List Cel} {x : Cel} {h h1 h2 : Hul} {b b1 b2 : Ben} : WrS l h b h1 b1 → WrQ h1 b1 x.s x.m x.b h2 b2 (I 0) → WrS (l ++ [x]) h b h2 b2
theorem WrS.mo {l : List Cel} {h h' : Hul} {b b' : Ben} (q : WrS l h b h' b') : MO h b h' b' := by
  induction q with
  | nil => exact .refl
  | snoc _ w ih => exact ih.trans w.mo
section
variable {gs gh gb : Nat} {s : Shf} {h : Hul} {b : Ben}
theorem WrQ.err {h h' : Hul} {b b' : Ben} {n m : Nat} {x : Blk} {v : Value} (hq : WrQ h b n m x h' b' v) : (v = I 0) ∨ (v = I 16 ∧ h'.r.state = 5) := by
  rcases hq with ⟨h1, _⟩ | ⟨_, (⟨h1, _⟩ | h1)⟩
  · exact .inl h1
  · exact .inl h1
  · exact .inr h1
theorem f99 {n : Nat} (hh : HB h b) (hi : 0 < h.id) (hn : n < h.r.g.s) (hk : b.k < 1099511600000) (hkd : ∀ m, (s.F n).dr m = true → (s.F n).kn m = true) :
    Ct Tryz.prog 99 [PP gs, PP gh, I n] [ShC gs h.r.g s, huC gh gb h, BenC gb b] (fun v L => ∃ h' b', HK 9600 h b h' b' ∧
      ((v = I 0 ∧ WrS (s.cells h.r.g.m n) h b h' b' ∧ L = [ShC gs h.r.g (s.clean n), huC gh gb h', BenC gb b']) ∨ (v = I 16 ∧ h'.r.state = 5 ∧ L = [ShC gs h.r.g s, huC gh gb h', BenC gb b']))) := by
  refine w_ct Tryz.func99 rfl Tryz.ntmps99 rfl fun w B => ?_
  have hg := hh.ok.ge
  have hm3 := hg.m3
  have hs1 := hg.s1
  have h155 := f155 (gs := gs) (s := s) hg (n := 0) (by omega)
  have h155n := f155 (gs := gs) (s := s) hg hn
  have h122 := f122 (gh := gh) (gb := gb) (h := h)
  have h156 := f156 (gs := gs) (s := s) hg hn hkd
  have h158 := f158 (gs := gs) (s := s) hg hn
  refine W ?_
  refine cl' h155 ?_
  rintro _ _ ⟨a0, rfl, rfl⟩
  refine W ?_
  rw [decide_eq_false (show ¬ ((h.r.g.m : Nat) : Int) = 0 by omega)]
  refine W ?_
  refine cv h122 ?_
  refine W ?_
  rw [decide_eq_false (show ¬ ((h.id : Nat) : Int) = 0 by omega)]
  refine W ?_
  refine cl' h155n ?_
  rintro _ _ ⟨a1, rfl, rfl⟩
  refine W ?_
  rw [decide_eq_false (show ¬ ((h.r.g.m : Nat) : Int) = 0 by omega)]
  refine W ?_
  refine cl' h156 ?_
  rintro _ _ ⟨a, c, rfl, rfl⟩
  have hcl : (s.cells h.r.g.m n).length ≤ 16 := by
    unfold Shf.cells
    rw [List.length_map]
    have := List.length_filter_le (s.F n).dr (List.range h.r.g.m)
    rw [List.length_range] at this
    have := hg.m16
    omega
  refine W ?_
  refine w_loop (γ := Nat × Hul × Ben) (fun ⟨j, h', b'⟩ => [(0, PP gs), (1, PP gh), (2, I n), (26, .slice a (s.cells h.r.g.m n).length c), (27, I (s.cells h.r.g.m n).length), (28, I j)])
    (fun ⟨j, h', b'⟩ => [ShC gs h.r.g s, huC gh gb h', BenC gb b', sv eCel 163 (s.cells h.r.g.m n) a c]) (fun ⟨j, h', b'⟩ => j ≤ (s.cells h.r.g.m n).length ∧ HK (600 * j) h b h' b' ∧ WrS ((s.cells h.r.g.m n).take j) h b h' b') (fun x => (s.cells h.r.g.m n).length - x.1) (0, h, b) sl_ ent_
    ⟨Nat.zero_le _, ⟨hh, rfl, rfl, by omega, .refl⟩, .nil⟩ fun ⟨j, h', b'⟩ B ⟨hj, hK, hW⟩ => ?_
  dsimp only at hj hK hW ⊢
  refine W ?_
  refine w_if rfl (fun hc => ?_) (fun hc => ?_)
  · have hlt : j < (s.cells h.r.g.m n).length := by omega
    have hxm : (s.cells h.r.g.m n)[j] ∈ s.cells h.r.g.m n := List.getElem_mem hlt
    have hx : (s.cells h.r.g.m n)[j].s = n ∧ (s.cells h.r.g.m n)[j].m < h.r.g.m := by
      unfold Shf.cells at hxm
      obtain ⟨m, hm, e⟩ := List.mem_map.1 hxm
      have e' : (s.cells h.r.g.m n)[j] = ⟨n, m, (s.F n).bs m⟩ := e.symm
      rw [e']
      exact ⟨rfl, List.mem_range.1 (List.mem_filter.1 hm).1⟩
    have hk2 := hK.k
    have h157 := f157 (gh := gh) (gb := gb) (x := (s.cells h.r.g.m n)[j].b) hK.hb (n := (s.cells h.r.g.m n)[j].s) (m := (s.cells h.r.g.m n)[j].m) (by rw [hK.g, hx.1]; exact hn) (by rw [hK.g]; exact hx.2) (by omega)
    refine w_skip ?_
    refine g_svp rfl (sel_ : Sel (sv eCel 163 _ a c) _ _) (by omega) fun ga hga => ?_
    subst hga
    refine W1 fun g8 => ?_
    refine cl' h157 ?_
    rintro v _ ⟨h2, b2, rfl, hq⟩
    have hK2 := (hK.trans (hq.hk hK.hb (by rw [hK.g]; exact hx.2))).mono (show 600 * j + 600 ≤ 600 * (j + 1) by omega)
    rcases hq.err with rfl | ⟨rfl, he⟩
    · refine W ?_
      refine w_land rfl (w_round (j + 1, h2, b2) ⟨hlt, hK2, by rw [List.take_succ_eq_append_getElem hlt]; exact hW.snoc hq⟩ (by show (s.cells h.r.g.m n).length - (j + 1) < (s.cells h.r.g.m n).length - j; omega) sl_ (Ent.sel sel_ (Ent.sel sel_ (Ent.sel sel_ (Ent.trans (Ent.sel (sel_ : Sel (rowc eCel 163 _ ga c) _ _) (.refl _)) (ent_sv ent_))))))
    · refine W ?_
      exact fin ⟨_, rfl, h2, b2, hK2.mono (by omega), .inr ⟨rfl, he, rfl⟩⟩
  · have hjj : j = (s.cells h.r.g.m n).length := by omega
    rw [hjj, List.take_length] at hW
    refine W ?_
    refine cl' h158 ?_
    rintro _ _ ⟨rfl, rfl⟩
    refine W ?_
    exact fin ⟨_, rfl, h', b', hK.mono (by omega), .inl ⟨rfl, hW, rfl⟩⟩
end
end Go.Proofs.YtnilejkfbcnkkaaGreatDoor.V
end
section
set_option maxRecDepth 100000
set_option maxHeartbeats 2000000
namespace Go.Proofs.YtnilejkfbcnkkaaGreatDoor.V
variable [GlK]
open Go Go.RowKit
attribute [local irreducible] Yields cl blk pur rowc sv exC fo cnt

/-- stripes gone home one behind the other -/
inductive BkS (M : Nat) : List Nat → Shf → Hul → Ben → Shf → Hul → Ben → Prop
  | nil {s : Shf} {h : Hul} {b : Ben} : BkS M [] s h b s h b
  | snoc {l : List Nat} {n : Nat} {s s1 : Shf} {h h1 h2 : Hul} {b b1 b2 : Ben} : BkS M l s h b s1 h1 b1 → WrS (s1.cells M n) h1 b1 h2 b2 → BkS M (l ++ [n]) s h b (s1.clean n) h2 b2
theorem HS.hk {c : Nat} {h h' : Hul} {b b' : Ben} (hh : HB h b) (hs : HS c h b h' b') : HK c h b h' b' := ⟨hh.st hs, hs.re.g, hs.id, hs.be.k2, hs.mo⟩
def Shf.kd (s : Shf) : Prop := ∀ n m, (s.F n).dr m = true → (s.F n).kn m = true
theorem Shf.kd_clean {s : Shf} (h : s.kd) (n : Nat) : (s.clean n).kd := by
  intro k m hd
  have hd : (fset s.F n (s.F n).clean k).dr m = true := hd
  show (fset s.F n (s.F n).clean k).kn m = true
  by_cases e : k = n
  · subst e; rw [fset_eq] at hd; cases hd
  · rw [fset_ne e] at hd ⊢; exact h k m hd
section
variable {gs gh gb : Nat} {s : Shf} {h : Hul} {b : Ben}
theorem f154 (hh : HB h b) (hi : 0 < h.id) (hk : b.k < 1099501000000) (hks : s.ks.length ≤ 1000) (hkd : s.kd) (hds : ∀ k, (s.F k).drt = true → k < h.r.g.s) :
    Ct Tryz.prog 154 [PP gs, PP gh] [ShC gs h.r.g s, huC gh gb h, BenC gb b] (fun v L => ∃ s' h' b', HK 9619200 h b h' b' ∧ L = [ShC gs h.r.g s', huC gh gb h', BenC gb b'] ∧
      ((v = I 0 ∧ h'.r.state ≠ 5 ∧ ∃ d h1 b1, DirL s d ∧ BkS h.r.g.m d s h b s' h1 b1 ∧ HS 9600 h1 b1 h' b' ∧ h'.r.settled b'.dead) ∨ (v = I 16 ∧ h'.r.state = 5))) := by
  refine w_ct Tryz.func154 rfl Tryz.ntmps154 rfl fun w B => ?_
  have hg := hh.ok.ge
  have hm3 := hg.m3
  have hs1 := hg.s1
  have h155 := f155 (gs := gs) (s := s) hg (n := 0) (by omega)
  have h122 := f122 (gh := gh) (gb := gb) (h := h)
  have h67 := f67 (gs := gs) (s := s) hg hks
  refine W ?_
  refine cl' h155 ?_
  rintro _ _ ⟨a0, rfl, rfl⟩
  refine W ?_
  rw [decide_eq_false (show ¬ ((h.r.g.m : Nat) : Int) = 0 by omega)]
  refine W ?_
  refine cv h122 ?_
  refine W ?_
  rw [decide_eq_false (show ¬ ((h.id : Nat) : Int) = 0 by omega)]
  refine W ?_
  refine cl' h67 ?_
  rintro _ _ ⟨d, a, c, rfl, rfl, hd⟩
  have hdl := hd.len
  refine W ?_
  refine w_loop (γ := Nat × Shf × Hul × Ben) (fun ⟨j, s', h', b'⟩ => [(0, PP gs), (1, PP gh), (18, .slice a d.length c), (19, I d.length), (20, I j)])
    (fun ⟨j, s', h', b'⟩ => [ShC gs h.r.g s', huC gh gb h', BenC gb b', sv eNat 3 d a c]) (fun ⟨j, s', h', b'⟩ => j ≤ d.length ∧ HK (9600 * j) h b h' b' ∧ s'.kd ∧ BkS h.r.g.m (d.take j) s h b s' h' b') (fun x => d.length - x.1) (0, s, h, b) sl_ ent_
    ⟨Nat.zero_le _, ⟨hh, rfl, rfl, by omega, .refl⟩, hkd, .nil⟩ fun ⟨j, s', h', b'⟩ B ⟨hj, hK, hkd', hW⟩ => ?_
  dsimp only at hj hK hkd' hW ⊢
  have hk2 := hK.k
  refine W ?_
  refine w_if rfl (fun hc => ?_) (fun hc => ?_)
  · have hlt : j < d.length := by omega
    have hdn : d[j] < h.r.g.s := hds _ ((hd.mem _).1 (List.getElem_mem hlt))
    have h99 := f99 (gs := gs) (gh := gh) (gb := gb) (s := s') (n := d[j]) hK.hb (by rw [hK.id]; exact hi) (by rw [hK.g]; exact hdn) (by omega) (hkd' _)
    rw [hK.g] at h99
    refine w_skip ?_
    refine g_svp rfl (sel_ : Sel (sv eNat 3 d a c) _ _) (by omega) fun ga hga => ?_
    subst hga
    refine W ?_
    refine cl' h99 ?_
    rintro v _ ⟨h2, b2, hq, (⟨rfl, hw, rfl⟩ | ⟨rfl, he, rfl⟩)⟩
    · refine W ?_
      refine w_land rfl (w_round (j + 1, s'.clean d[j], h2, b2) ⟨hlt, (hK.trans hq).mono (show 9600 * j + 9600 ≤ 9600 * (j + 1) by omega), Shf.kd_clean hkd' _, by rw [List.take_succ_eq_append_getElem hlt]; exact hW.snoc hw⟩ (by show d.length - (j + 1) < d.length - j; omega) sl_ (Ent.sel sel_ (Ent.sel sel_ (Ent.sel sel_ (Ent.trans (Ent.sel (sel_ : Sel (rowc eNat 3 d ga c) _ _) (.refl _)) (ent_sv ent_))))))
    · refine W ?_
      exact fin ⟨_, rfl, s', h2, b2, (hK.trans hq).mono (by omega), rfl, .inr ⟨rfl, he⟩⟩
  · have hjj : j = d.length := by omega
    rw [hjj, List.take_length] at hW
    have h100 := f100 (gh := gh) (gb := gb) hK.hb (by omega)
    refine W ?_
    refine cl' h100 ?_
    rintro v _ ⟨h2, b2, rfl, hs2, (⟨rfl, h5, hset⟩ | ⟨rfl, h5⟩)⟩
    · refine W ?_
      exact fin ⟨_, rfl, s', h2, b2, (hK.trans (hs2.hk hK.hb)).mono (by omega), rfl, .inl ⟨rfl, h5, d, h', b', hd, hW, hs2, by rw [hs2.be.dead]; exact hset⟩⟩
    · refine W ?_
      exact fin ⟨_, rfl, s', h2, b2, (hK.trans (hs2.hk hK.hb)).mono (by omega), rfl, .inr ⟨rfl, h5⟩⟩
end
end Go.Proofs.YtnilejkfbcnkkaaGreatDoor.V
end
