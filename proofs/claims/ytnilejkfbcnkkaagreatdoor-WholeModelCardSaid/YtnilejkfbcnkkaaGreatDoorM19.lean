/- Proved: what a vault keeps where a cell is read; Sync, Back; Back, Clear; Clear, Block; the conditions stand in the statements. -/
import Derived.Test.YtnilejkfbcnkkaaGreatDoorM18
set_option linter.unusedVariables false
set_option linter.unusedSimpArgs false
set_option linter.unusedSectionVars false
section
set_option maxRecDepth 100000
set_option maxHeartbeats 1000000
namespace Go.Proofs.YtnilejkfbcnkkaaGreatDoor.V
variable [GlK]
open Go Go.RowKit
attribute [local irreducible] Yields cl blk pur rowc sv exC fo cnt xorb blk0

section
variable {C B : Nat → Nat → Blk} {h h' : Hul} {b b' : Ben} {s s' t : Shf} {l : Option (Nat × Lg)} {n m : Nat} {v : Value} {g : Geo}
theorem T2_inj {a b c d : Value} (h : T [a, b] = T [c, d]) : a = c ∧ b = d := by simpa using h
theorem BV_inj {x y : Blk} (h : BV x = BV y) : x = y := bv_inj (Value.agg.inj h)
theorem not_both {ks : List (Nat × Bool)} {k : Nat} (hn : (ks.map Prod.fst).Nodup) (h1 : (k, false) ∈ ks) (h2 : (k, true) ∈ ks) : False := by
  induction ks with
  | nil => cases h1
  | cons p ks ih =>
    simp only [List.map_cons, List.nodup_cons] at hn
    rcases List.mem_cons.1 h1 with e1 | h3
    · rcases List.mem_cons.1 h2 with e2 | h4
      · rw [← e1] at e2; cases e2
      · subst e1; exact hn.1 (List.mem_map.2 ⟨_, h4, rfl⟩)
    · rcases List.mem_cons.1 h2 with e2 | h4
      · subst e2; exact hn.1 (List.mem_map.2 ⟨_, h3, rfl⟩)
      · exact ih hn.2 h3 h4
theorem emp_drt {k : Nat} : (Ln.emp k).drt = false := by unfold Ln.drt Ln.emp; simp
/-- a line touched: which lines may have turned -/
theorem TchR.line (q : TchR g s n t) (hp : ShP g s) (k : SK g s l) (j : Nat) : t.F j = s.F j ∨ (t.F j = .emp g.m ∧ (s.F j).drt = false) := by
  obtain ⟨_, (⟨_, _, e⟩ | ⟨_, _, _, e⟩ | ⟨_, k0, rest, hpm, _, e⟩)⟩ := q
  · left; rw [e]
  · left; rw [e]
  · by_cases c : j = k0
    · subst c
      right
      refine ⟨by rw [e, fset_eq], ?_⟩
      cases d : (s.F j).drt with
      | false => rfl
      | true => exact (not_both hp.nd (hpm.mem_iff.2 (by simp)) ((k.pin j).2 d)).elim
    · left; rw [e, fset_ne c]
theorem TchR.drt (q : TchR g s n t) (hp : ShP g s) (k : SK g s l) (j : Nat) : (t.F j).drt = (s.F j).drt := by
  rcases q.line hp k j with e | ⟨e, e2⟩
  · rw [e]
  · rw [e, e2, emp_drt]
theorem SK.tch (k : SK g s l) (hp : ShP g s) (q : TchR g s n t) : SK g t l := by
  have hd := q.drt hp k
  have hl := q.line hp k
  refine ⟨fun j m hj => ?_, fun j hj => k.dk j (hd j ▸ hj), fun j => ?_, fun j m hm => ?_, q.1.trans k.r, fun j hj => ?_, fun j hj => ?_, fun j hj x hx => ?_⟩
  · rcases hl j with e | ⟨e, _⟩
    · rw [e] at hj ⊢; exact k.kd j m hj
    · rw [e] at hj; cases hj
  · rw [hd j, ← k.pin j]
    obtain ⟨_, (⟨_, e, _⟩ | ⟨_, _, e, _⟩ | ⟨_, k0, rest, hpm, e, _⟩)⟩ := q
    · exact e.mem_iff
    · rw [e]; simp
    · rw [e, hpm.mem_iff]; simp
  · rcases hl j with e | ⟨e, _⟩
    · rw [e]; exact k.hi j m hm
    · rw [e]; rfl
  · rw [hd j] at hj
    rcases hl j with e | ⟨e, e2⟩
    · rw [e]; exact k.f0 j hj
    · rw [e2] at hj; cases hj
  · rw [hd j] at hj
    rcases hl j with e | ⟨e, e2⟩
    · rw [e]; exact k.fz j hj
    · rw [e]; rfl
  · rw [hd j] at hj
    rcases hl j with e | ⟨e, e2⟩
    · rw [e]; exact k.fl j hj x hx
    · rw [e2] at hj; cases hj
theorem SB.tch (k : SB C B h b s) (sk : SK h.r.g s l) (hp : ShP h.r.g s) (q : TchR h.r.g s n t) : SB C B h b t := by
  have hl := q.line hp sk
  refine ⟨k.bx, k.dk, fun j m hm hj => ?_, fun j m hj hm hd => ?_⟩
  · rcases hl j with e | ⟨e, _⟩
    · rw [e] at hj ⊢; exact k.kn j m hm hj
    · rw [e] at hj; cases hj
  · rcases hl j with e | ⟨e, e2⟩
    · rw [e] at hd; exact k.cl j m hj hm hd
    · exact k.cl j m hj hm (drt_no e2 (by rw [hp.lm]; exact hm))
theorem learn_dr {ln : Ln} {i : Nat} {x : Blk} : (ln.learn i x).dr = ln.dr ∧ (ln.learn i x).first = ln.first ∧ (ln.learn i x).drt = ln.drt := by
  unfold Ln.learn; split <;> exact ⟨rfl, rfl, rfl⟩
theorem learn_kn {ln : Ln} {i j : Nat} {x : Blk} (h : (ln.learn i x).kn j = true) : (ln.kn j = true ∧ (ln.learn i x).bs j = ln.bs j) ∨ (j = i ∧ (ln.learn i x).bs j = x) := by
  unfold Ln.learn at h ⊢
  split
  · rename_i e; rw [if_pos e] at h; exact .inl ⟨h, rfl⟩
  · rename_i e
    rw [if_neg e] at h
    have h : fset ln.kn i true j = true := h
    show (_ ∧ fset ln.bs i x j = _) ∨ (_ ∧ fset ln.bs i x j = _)
    by_cases c : j = i
    · subst c; exact .inr ⟨rfl, fset_eq⟩
    · rw [fset_ne c] at h ⊢; exact .inl ⟨h, rfl⟩
theorem learn_mono {ln : Ln} {i j : Nat} {x : Blk} (h : ln.kn j = true) : (ln.learn i x).kn j = true := by
  unfold Ln.learn
  split
  · exact h
  · show fset ln.kn i true j = true
    unfold fset; split
    · rfl
    · exact h
theorem learn_drt {x : Blk} (j : Nat) : (fset t.F n ((t.F n).learn m x) j).drt = (t.F j).drt := by
  by_cases c : j = n
  · subst c; rw [fset_eq]; exact learn_dr.2.2
  · rw [fset_ne c]
theorem SK.learn (k : SK g t l) {x : Blk} : SK g { t with F := fset t.F n ((t.F n).learn m x) } l := by
  have hF : ∀ j, (fset t.F n ((t.F n).learn m x) j).dr = (t.F j).dr ∧ (fset t.F n ((t.F n).learn m x) j).first = (t.F j).first ∧ (fset t.F n ((t.F n).learn m x) j).drt = (t.F j).drt := by
    intro j
    by_cases c : j = n
    · subst c; rw [fset_eq]; exact learn_dr
    · rw [fset_ne c]; exact ⟨rfl, rfl, rfl⟩
  refine ⟨fun j i hj => ?_, fun j hj => k.dk j ((hF j).2.2 ▸ hj), fun j => ?_, fun j i hi => ?_, k.r, fun j hj => ?_, fun j hj => ?_, fun j hj y hy => ?_⟩
  · have hj2 : (fset t.F n ((t.F n).learn m x) j).dr i = true := hj
    rw [(hF j).1] at hj2
    show (fset t.F n ((t.F n).learn m x) j).kn i = true
    by_cases c : j = n
    · subst c; rw [fset_eq]; exact learn_mono (k.kd _ i hj2)
    · rw [fset_ne c]; exact k.kd _ i hj2
  · show _ ↔ (fset t.F n ((t.F n).learn m x) j).drt = true
    rw [(hF j).2.2]; exact k.pin j
  · show (fset t.F n ((t.F n).learn m x) j).dr i = false
    rw [(hF j).1]; exact k.hi j i hi
  · show 0 < (fset t.F n ((t.F n).learn m x) j).first
    rw [(hF j).2.1]; exact k.f0 j ((hF j).2.2 ▸ hj)
  · show (fset t.F n ((t.F n).learn m x) j).first = 0
    rw [(hF j).2.1]; exact k.fz j ((hF j).2.2 ▸ hj)
  · show _ ≤ (fset t.F n ((t.F n).learn m x) j).first ∧ (fset t.F n ((t.F n).learn m x) j).first < _
    rw [(hF j).2.1]; exact k.fl j ((hF j).2.2 ▸ hj) y hy
theorem SB.learn (k : SB C B h b t) {x : Blk} (hx : x = C n m) : SB C B h b { t with F := fset t.F n ((t.F n).learn m x) } := by
  refine ⟨k.bx, k.dk, fun j i hi hj => ?_, fun j i hj hi hd => ?_⟩
  · have hj : (fset t.F n ((t.F n).learn m x) j).kn i = true := hj
    show (fset t.F n ((t.F n).learn m x) j).bs i = _
    by_cases c : j = n
    · subst c
      rw [fset_eq] at hj ⊢
      rcases learn_kn hj with ⟨e1, e2⟩ | ⟨rfl, e2⟩
      · rw [e2]; exact k.kn j i hi e1
      · rw [e2]; exact hx
    · rw [fset_ne c] at hj ⊢; exact k.kn j i hi hj
  · have hd : (fset t.F n ((t.F n).learn m x) j).dr i = false := hd
    by_cases c : j = n
    · subst c
      rw [fset_eq, learn_dr.1] at hd
      exact k.cl j i hj hi hd
    · rw [fset_ne c] at hd; exact k.cl j i hj hi hd
/-- what a reading comes to -/
theorem read_ok (sb : SB C B h b s) (sk : SK h.r.g s l) (hp : ShP h.r.g s) (hh : HB h b) (h5 : h.r.state ≠ 5) (hn : n < h.r.g.s) (hm : m < h.r.g.m) (hs : HS 1200 h b h' b') (q : ShRdQ s h b n m s' h' b' v)
    (hc : (s.F n).kn m = true ∨ C n m = B n m) : SB C B h' b' s' ∧ SK h'.r.g s' l ∧ (∀ j, (s'.F j).drt = (s.F j).drt) ∧ ((v = T [BV (C n m), I 0] ∧ h'.r.state ≠ 5) ∨ (v = T [BV blk0, I 16] ∧ h'.r.state = 5)) := by
  have hm16 := hh.ok.ge.m16
  have sb' := sb.hs hm16 hs
  have hg : h'.r.g = h.r.g := hs.re.g
  rcases q with ⟨hk, rfl, rfl, rfl, (ht | rfl)⟩ | ⟨hk, hcq, hs'⟩
  · exact ⟨sb.tch sk hp ht, sk.tch hp ht, ht.drt hp sk, .inl ⟨by rw [sb.kn n m hm hk], h5⟩⟩
  · exact ⟨sb, sk, fun _ => rfl, .inl ⟨by rw [sb.kn n m hm hk], h5⟩⟩
  · have hcb : C n m = B n m := by
      rcases hc with e | e
      · rw [hk] at e; cases e
      · exact e
    have hx : ∀ x, v = T [BV x, I 0] → x = C n m ∧ h'.r.state ≠ 5 := by
      intro x hv
      rcases hcq with ⟨y, hy, h6, hor⟩ | ⟨hy, _⟩
      · have exy : x = y := by
          rw [hv] at hy
          exact BV_inj (T2_inj hy).1
        subst exy
        refine ⟨?_, h6⟩
        rw [hcb]
        rcases hor with ⟨rfl, rfl, e1, e2, e3⟩ | ⟨e1, e2, e3⟩
        · rw [e3]; exact sb.dk n m hm e1 e2
        · rw [e3]
          unfold oth
          have : (othM h.r.g.m m).map (fun m' => b'.rd m' (2 + n)) = (othM h.r.g.m m).map (B n) := by
            refine List.map_congr_left fun m' hm' => ?_
            unfold othM at hm'
            obtain ⟨h1, h2⟩ := List.mem_filter.1 hm'
            have h1 := List.mem_range.1 h1
            have h2 : m' ≠ m := by have := of_decide_eq_true h2; omega
            obtain ⟨h3, h4⟩ := e2 m' h1 h2
            exact sb'.dk n m' (by rw [hg]; exact h1) h3 (by rw [hs.be.dead]; exact h4)
          rw [this]
          exact foldb_oth hm (sb.bx n hn)
      · rw [hv] at hy
        have := (T2_inj hy).2
        cases this
    rcases hs' with ⟨x, hv, (⟨t, ht, rfl⟩ | rfl)⟩ | ⟨hv, rfl⟩
    · obtain ⟨h1, h2⟩ := hx x hv
      have ht' : TchR h'.r.g s n t := by rw [hg]; exact ht
      have sk' : SK h'.r.g s l := by rw [hg]; exact sk
      have hp' : ShP h'.r.g s := by rw [hg]; exact hp
      exact ⟨(sb'.tch sk' hp' ht').learn h1, (sk'.tch hp' ht').learn, fun j => (learn_drt j).trans (ht.drt hp sk j), .inl ⟨by rw [hv, h1], h2⟩⟩
    · obtain ⟨h1, h2⟩ := hx x hv
      exact ⟨sb', by rw [hg]; exact sk, fun _ => rfl, .inl ⟨by rw [hv, h1], h2⟩⟩
    · refine ⟨sb', by rw [hg]; exact sk, fun _ => rfl, .inr ⟨hv, ?_⟩⟩
      rcases hcq with ⟨y, hy, _⟩ | ⟨_, h6⟩
      · rw [hv] at hy
        have := (T2_inj hy).2
        cases this
      · exact h6
end
end Go.Proofs.YtnilejkfbcnkkaaGreatDoor.V
end
section
set_option maxRecDepth 100000
set_option maxHeartbeats 1000000
namespace Go.Proofs.YtnilejkfbcnkkaaGreatDoor.V
variable [GlK]
open Go Go.RowKit
attribute [local irreducible] Yields cl blk pur rowc sv exC fo cnt xorb blk0

section
variable {n : Fp} {w0 : World} {S : Nat → Prop} {X : Post} {R : Regs} {L : Hp}
end
section
variable {gv gh gb gs : Nat} {C C' : Nat → Nat → Blk} {V : Vlt}
theorem f77v (hr : RosOk V.h.r) : CtP Tryz.prog 77 [PP gv] (VtM gv gh gb gs V) (fun o L => L = VtM gv gh gb gs V ∧ ((o = .ret (T []) ∧ V.h.r.state ≠ 5) ∨ (o = .pan (fltV 16) ∧ V.h.r.state = 5))) := by
  refine CtP.mono (CtP.frame (K := [BenC gb V.b, ShC gs V.h.r.g V.s, lgO gb V.l, glC]) (f77 (gv := gv) (gh := gh) (gb := gb) (gs := gs) (l := lgV V.l) hr) (Ent.refl _)) ?_
  rintro o _ ⟨M, ⟨rfl, h⟩, rfl⟩
  exact ⟨rfl, h⟩
theorem f73v (k : VK C V) : CtV Tryz.prog 73 [PP gv] [vtC gv gh gb gs (lgV V.l), BenC gb V.b] (I 0) := by
  have hm := k.g.m3
  obtain ⟨dv, hd⟩ := k.hb.dv (j := 0) (by omega)
  exact f73 hd
/-- what an asking comes to that may fail -/
def FlQ (C : Nat → Nat → Blk) (c : Nat) (V V' : Vlt) (v : Value) : Prop := VS C C c V V' ∧ ((v = I 0 ∧ V'.h.r.state ≠ 5) ∨ (v = I 16 ∧ V'.h.r.state = 5))
theorem f56 (k : VK C V) (hk : V.b.k < 1099400000000) : Ct Tryz.prog 56 [PP gv] (VtM gv gh gb gs V) (fun v L => ∃ V' : Vlt, L = VtM gv gh gb gs V' ∧ FlQ C 20000000 V V' v) := by
  have h73 := f73v (gv := gv) (gh := gh) (gb := gb) (gs := gs) k
  have h77 := f77v (gv := gv) (gh := gh) (gb := gb) (gs := gs) k.hb.ok
  refine w_ct Tryz.func56 rfl Tryz.ntmps56 rfl fun w B => ?_
  refine W1 fun ge => ?_
  refine cv h73 ?_
  refine W ?_
  refine w_dfr rfl rfl ?_
  refine W ?_
  refine clP h77 (fun v M hq => ?_) (fun v M hq => ?_)
  · obtain ⟨rfl, (⟨e, h5⟩ | ⟨e, h5⟩)⟩ := hq
    · cases e
      have h98 := f98 (gv := gv) (gh := gh) (gb := gb) (gs := gs) k h5 hk
      refine W ?_
      refine clP h98 (fun v M hq => ?_) (fun v M hq => ?_)
      · obtain ⟨V1, hv1, rfl, (⟨e, hcl⟩ | ⟨e, h6⟩)⟩ := hq
        · cases e
          have h77 := f77v (gv := gv) (gh := gh) (gb := gb) (gs := gs) hv1.ok.hb.ok
          refine W ?_
          refine clP h77 (fun v M hq => ?_) (fun v M hq => ?_)
          · obtain ⟨rfl, (⟨e, h5⟩ | ⟨e, h5⟩)⟩ := hq
            · cases e
              refine W ?_
              refine fin_dret f76r rfl Pick.nil ?_
              rintro _ rfl
              exact fin ⟨_, rfl, V1, rfl, hv1.mono (by omega), .inl ⟨rfl, h5⟩⟩
            · cases e
          · obtain ⟨rfl, (⟨e, h5⟩ | ⟨e, h5⟩)⟩ := hq
            · cases e
            · cases e
              refine w_pan ?_
              refine fin_dpan (f76p (gv := gv) (gh := gh) (gb := gb) (gs := gs) (ge := ge) (l := lgV V1.l) (e := 16) (e0 := 0) (by decide)) rfl pick_ ?_
              rintro _ rfl
              exact fin ⟨_, rfl, V1, rfl, hv1.mono (by omega), .inr ⟨rfl, h5⟩⟩
        · cases e
      · obtain ⟨V1, hv1, rfl, (⟨e, hcl⟩ | ⟨e, h6⟩)⟩ := hq
        · cases e
        · cases e
          refine w_pan ?_
          refine fin_dpan (f76p (gv := gv) (gh := gh) (gb := gb) (gs := gs) (ge := ge) (l := lgV V1.l) (e := 16) (e0 := 0) (by decide)) rfl pick_ ?_
          rintro _ rfl
          exact fin ⟨_, rfl, V1, rfl, hv1.mono (by omega), .inr ⟨rfl, h6⟩⟩
    · cases e
  · obtain ⟨rfl, (⟨e, h5⟩ | ⟨e, h5⟩)⟩ := hq
    · cases e
    · cases e
      refine w_pan ?_
      refine fin_dpan (f76p (gv := gv) (gh := gh) (gb := gb) (gs := gs) (ge := ge) (l := lgV V.l) (e := 16) (e0 := 0) (by decide)) rfl pick_ ?_
      rintro _ rfl
      exact fin ⟨_, rfl, V, rfl, VS.refl k, .inr ⟨rfl, h5⟩⟩
end
end Go.Proofs.YtnilejkfbcnkkaaGreatDoor.V
end
section
set_option maxRecDepth 100000
set_option maxHeartbeats 1000000
namespace Go.Proofs.YtnilejkfbcnkkaaGreatDoor.V
variable [GlK]
open Go Go.RowKit
attribute [local irreducible] Yields cl blk pur rowc sv exC fo cnt xorb blk0

theorem WrS.ne5 {l : List Cel} {h h' : Hul} {b b' : Ben} (q : WrS l h b h' b') (h5 : h.r.state ≠ 5) : h'.r.state ≠ 5 := by
  induction q with
  | nil => exact h5
  | snoc p w ih =>
    rcases w with ⟨_, rfl, e, _⟩ | ⟨_, (⟨_, e, _⟩ | ⟨e, _⟩)⟩
    · exact e
    · exact e
    · cases e
theorem VS.back {C : Nat → Nat → Blk} {h h' : Hul} {b b' : Ben} {s : Shf} {l : Option (Nat × Lg)} {n : Nat} (k : VK C ⟨h, b, s, l⟩) (h5 : h.r.state ≠ 5) (hn : n < h.r.g.s) (q : WrS (s.cells h.r.g.m n) h b h' b') (hK : HK 9600 h b h' b') :
    VS C C 9600 ⟨h, b, s, l⟩ ⟨h', b', s.clean n, l⟩ ∧ ∃ B, SB C B h' b' (s.clean n) ∧ ∀ m, B n m = C n m := by
  obtain ⟨sk, B, sb⟩ := k.sk h5
  have o := q.mo
  have hB := SB.back sb k.cx sk.kd k.g.m16 q hn
  refine ⟨⟨o.mv hK.id, hK.k, ⟨hK.hb, by show 0 < h'.id; rw [hK.id]; exact k.id, ld_mo o k.ld, k.lo.up o.g o.gone o.k1, by show CX C h'.r.g; rw [o.g]; exact k.cx, fun _ => ⟨?_, _, hB⟩⟩, fun hl _ j => ?_⟩, _, hB, fun m => by simp⟩
  · show SK h'.r.g (s.clean n) l
    rw [o.g]; exact sk.clean n
  · show (fset s.F n (s.F n).clean j).drt = false
    by_cases e : j = n
    · subst e; rw [fset_eq, clean_drt]
    · rw [fset_ne e]; exact k.ne hl h5 j
section
variable {gv gh gb gs : Nat} {C C' : Nat → Nat → Blk} {V : Vlt}
theorem f57 {n : Nat} (k : VK C V) (hn : n < V.h.r.g.s) (hk : V.b.k < 1099400000000) : Ct Tryz.prog 57 [PP gv, I n] (VtM gv gh gb gs V) (fun v L => ∃ V' : Vlt, L = VtM gv gh gb gs V' ∧ FlQ C 9600 V V' v ∧ V'.l = V.l ∧
    (v = I 0 → ∃ B, SB C B V'.h V'.b V'.s ∧ ∀ m, B n m = C n m)) := by
  have h73 := f73v (gv := gv) (gh := gh) (gb := gb) (gs := gs) k
  have h77 := f77v (gv := gv) (gh := gh) (gb := gb) (gs := gs) k.hb.ok
  have h75 := f75 (gv := gv) (gh := gh) (gb := gb) (gs := gs) (l := lgV V.l) (h := V.h)
  refine w_ct Tryz.func57 rfl Tryz.ntmps57 rfl fun w B => ?_
  refine W1 fun ge => ?_
  refine cv h73 ?_
  refine W ?_
  refine w_dfr rfl rfl ?_
  refine W ?_
  refine clP h77 (fun v M hq => ?_) (fun v M hq => ?_)
  · obtain ⟨rfl, (⟨e, h5⟩ | ⟨e, h5⟩)⟩ := hq
    · cases e
      have hsk := (k.sk h5).1
      have h99 := f99 (gs := gs) (gh := gh) (gb := gb) (s := V.s) (n := n) k.hb k.id hn (by omega) (fun m hm => hsk.kd n m hm)
      refine W ?_
      rw [decide_eq_false (show ¬ ((n : Nat) : Int) < 0 by omega)]
      refine W ?_
      first | refine cv h75 ?_ | refine cq h75 ?_ | refine w_gU (by rfl) (by rfl) (by rfl) (by rfl) (by rfl) ?_
      refine W ?_
      rw [decide_eq_false (show ¬ ((V.h.r.g.s : Nat) : Int) ≤ n by omega)]
      refine W ?_
      refine w_drawHD (N := 34) rfl (by decide +kernel) ?_
      refine W ?_
      refine cl' h99 ?_
      rintro v _ ⟨h', b', hK, (⟨rfl, hW, rfl⟩ | ⟨rfl, h6, rfl⟩)⟩
      · obtain ⟨hv, hB⟩ := VS.back (l := V.l) k h5 hn hW hK
        refine W ?_
        refine cv f79v ?_
        refine W ?_
        refine fin_dret f76r rfl Pick.nil ?_
        rintro _ rfl
        refine finE ⟨_, rfl, ⟨h', b', V.s.clean n, V.l⟩, rfl, ⟨hv, .inl ⟨rfl, hW.ne5 h5⟩⟩, rfl, fun _ => hB⟩ ?_
        show Ent _ [_, _, _, ShC gs h'.r.g _, _, _]
        rw [hK.g]; exact ent_
      · have hv := VS.fail (s' := V.s) (l := V.l) k.toVK0 hK h6
        refine W ?_
        refine clP (f79q (e := 16) (by decide)) (fun v M hq => ?_) (fun v M hq => ?_)
        · cases hq.1
        · obtain ⟨e, rfl⟩ := hq
          cases e
          refine w_pan ?_
          refine fin_dpan (f76p (gv := gv) (gh := gh) (gb := gb) (gs := gs) (ge := ge) (l := lgV V.l) (e := 16) (e0 := 0) (by decide)) rfl pick_ ?_
          rintro _ rfl
          refine finE ⟨_, rfl, ⟨h', b', V.s, V.l⟩, rfl, ⟨hv, .inr ⟨rfl, h6⟩⟩, rfl, fun e => by cases e⟩ ?_
          show Ent _ [_, _, _, ShC gs h'.r.g _, _, _]
          rw [hK.g]; exact ent_
    · cases e
  · obtain ⟨rfl, (⟨e, h5⟩ | ⟨e, h5⟩)⟩ := hq
    · cases e
    · cases e
      refine w_pan ?_
      refine fin_dpan (f76p (gv := gv) (gh := gh) (gb := gb) (gs := gs) (ge := ge) (l := lgV V.l) (e := 16) (e0 := 0) (by decide)) rfl pick_ ?_
      rintro _ rfl
      exact fin ⟨_, rfl, V, rfl, ⟨VS.refl k, .inr ⟨rfl, h5⟩⟩, rfl, fun e => by cases e⟩
end
end Go.Proofs.YtnilejkfbcnkkaaGreatDoor.V
end
section
set_option maxRecDepth 100000
set_option maxHeartbeats 1000000
namespace Go.Proofs.YtnilejkfbcnkkaaGreatDoor.V
variable [GlK]
open Go Go.RowKit
attribute [local irreducible] Yields cl blk pur rowc sv exC fo cnt xorb blk0

theorem VK.shelf {C : Nat → Nat → Blk} {h h' : Hul} {b b' : Ben} {s s' : Shf} {l : Option (Nat × Lg)} (k : VK C ⟨h, b, s, l⟩) (o : HS 1200 h b h' b') (sk : h'.r.state ≠ 5 → SK h'.r.g s' l ∧ ∃ B, SB C B h' b' s') (hdr : ∀ j, (s'.F j).drt = (s.F j).drt) : VS C C 1200 ⟨h, b, s, l⟩ ⟨h', b', s', l⟩ :=
  ⟨o.mo.mv o.id, o.be.k2, ⟨k.hb.st o, by show 0 < h'.id; rw [o.id]; exact k.id, ld_be o.be o.re.g k.ld, k.lo.up o.re.g o.re.gone o.be.k1, by show CX C h'.r.g; rw [o.re.g]; exact k.cx, sk⟩, fun hl h5 j => (hdr j).trans (k.ne hl (fun e => h5 (o.mo.state5 e)) j)⟩
section
variable {gv gh gb gs : Nat} {C C' : Nat → Nat → Blk} {V : Vlt}
/-- where a block is -/
def Geo.cell (g : Geo) (C : Nat → Nat → Blk) (n : Nat) : Blk := C (n / (g.m - 1)) (g.dat (n / (g.m - 1)) (n % (g.m - 1)))
theorem Geo.dat_lt {g : Geo} (hg : GeoOk g) (n i : Nat) : g.dat n i < g.m := by
  have := hg.m3; unfold Geo.dat; exact Nat.mod_lt _ (by omega)
theorem Geo.dat_ne {g : Geo} (hg : GeoOk g) {n i : Nat} (hi : i < g.m - 1) : g.dat n i ≠ g.par n := by
  have hm := hg.m3
  have hp := Geo.par_lt hg n
  unfold Geo.dat
  intro e
  by_cases h : g.par n + 1 + i < g.m
  · rw [Nat.mod_eq_of_lt h] at e; omega
  · rw [Nat.mod_eq_sub_mod (by omega), Nat.mod_eq_of_lt (by omega)] at e; omega
theorem f44 {n : Nat} (k : VK C V) (hn : n < V.h.r.g.blocks) (hk : V.b.k < 1099400000000) : Ct Tryz.prog 44 [PP gv, I n] (VtM gv gh gb gs V) (fun v L => ∃ V' : Vlt, L = VtM gv gh gb gs V' ∧ VS C C 1200 V V' ∧
    ((v = T [BV (V.h.r.g.cell C n), I 0] ∧ V'.h.r.state ≠ 5) ∨ (v = T [BV blk0, I 16] ∧ V'.h.r.state = 5))) := by
  have h73 := f73v (gv := gv) (gh := gh) (gb := gb) (gs := gs) k
  have h77 := f77v (gv := gv) (gh := gh) (gb := gb) (gs := gs) k.hb.ok
  have h75 := f75 (gv := gv) (gh := gh) (gb := gb) (gs := gs) (l := lgV V.l) (h := V.h)
  have h74 := f74 k.g hn
  have hm3 := k.g.m3
  have hst : n / (V.h.r.g.m - 1) < V.h.r.g.s := Nat.div_lt_of_lt_mul (by have := hn; unfold Geo.blocks at this; rw [Nat.mul_comm]; exact this)
  have hdt := Geo.dat_lt k.g (n / (V.h.r.g.m - 1)) (n % (V.h.r.g.m - 1))
  have hdn := Geo.dat_ne k.g (n := n / (V.h.r.g.m - 1)) (i := n % (V.h.r.g.m - 1)) (Nat.mod_lt _ (by omega))
  refine w_ct Tryz.func44 rfl Tryz.ntmps44 rfl fun w B => ?_
  refine W2 fun gx ge => ?_
  refine cv h73 ?_
  refine W ?_
  refine cv h75 ?_
  refine W ?_
  refine cv h74 ?_
  refine W1 fun gp => ?_
  refine w_dfr rfl rfl ?_
  refine W ?_
  refine clP h77 (fun v M hq => ?_) (fun v M hq => ?_)
  · obtain ⟨rfl, (⟨e, h5⟩ | ⟨e, h5⟩)⟩ := hq
    · cases e
      obtain ⟨sk, B0, sb⟩ := k.sk h5
      have h78 := f78 (gs := gs) (gh := gh) (gb := gb) (s := V.s) (n := n / (V.h.r.g.m - 1)) (m := V.h.r.g.dat (n / (V.h.r.g.m - 1)) (n % (V.h.r.g.m - 1))) k.hb k.id hst hdt (by omega)
      refine W ?_
      refine g_shp rfl (sel_ : Sel (ShC gs V.h.r.g V.s) _ _) fun hp => ?_
      refine w_dagD (N := 44) rfl [.q 0, .q 1, .q 2, .q 3, .q 4, .q 5, .q 6, .q 7, .q 8, .m 9 [], .q 10, .q 11, .q 12, .m 13 [12], .m 14 []] (by decide +kernel) ?_
      refine W ?_
      refine dm fun E => ?_
      refine cl' h78 ?_
      rintro v _ ⟨s', h', b', rfl, hs, hq⟩
      have hcb : (V.s.F (n / (V.h.r.g.m - 1))).kn (V.h.r.g.dat (n / (V.h.r.g.m - 1)) (n % (V.h.r.g.m - 1))) = true ∨ C (n / (V.h.r.g.m - 1)) (V.h.r.g.dat (n / (V.h.r.g.m - 1)) (n % (V.h.r.g.m - 1))) = B0 (n / (V.h.r.g.m - 1)) (V.h.r.g.dat (n / (V.h.r.g.m - 1)) (n % (V.h.r.g.m - 1))) := by
        cases e : (V.s.F (n / (V.h.r.g.m - 1))).dr (V.h.r.g.dat (n / (V.h.r.g.m - 1)) (n % (V.h.r.g.m - 1))) with
        | true => exact .inl (sk.kd _ _ e)
        | false =>
          rcases sb.cl _ _ hst hdt e with h | ⟨h, _⟩
          · exact .inr h
          · exact absurd h hdn
      obtain ⟨sb', sk', hdr, hv⟩ := read_ok sb sk hp k.hb h5 hst hdt hs hq hcb
      have hvs := VK.shelf (s' := s') k hs (fun _ => ⟨sk', B0, sb'⟩) hdr
      have hg : h'.r.g = V.h.r.g := hs.re.g
      rcases hv with ⟨rfl, h6⟩ | ⟨rfl, h6⟩
      · refine W ?_
        refine cv f79v ?_
        refine W ?_
        refine fin_dret f76r rfl Pick.nil ?_
        rintro _ rfl
        refine finE ⟨_, rfl, ⟨h', b', s', V.l⟩, rfl, hvs, .inl ⟨rfl, h6⟩⟩ ?_
        show Ent _ [_, _, _, ShC gs h'.r.g _, _, _]
        rw [hg]; exact ent_
      · refine W ?_
        refine clP (f79q (e := 16) (by decide)) (fun v M hq => ?_) (fun v M hq => ?_)
        · cases hq.1
        · obtain ⟨e, rfl⟩ := hq
          cases e
          refine w_pan ?_
          refine fin_dpan (f76p (gv := gv) (gh := gh) (gb := gb) (gs := gs) (ge := ge) (l := lgV V.l) (e := 16) (e0 := 16) (by decide)) rfl pick_ ?_
          rintro _ rfl
          refine finE ⟨_, rfl, ⟨h', b', s', V.l⟩, rfl, hvs, .inr ⟨rfl, h6⟩⟩ ?_
          show Ent _ [_, _, _, ShC gs h'.r.g _, _, _]
          rw [hg]; exact ent_
    · cases e
  · obtain ⟨rfl, (⟨e, h5⟩ | ⟨e, h5⟩)⟩ := hq
    · cases e
    · cases e
      refine w_pan ?_
      refine fin_dpan (f76p (gv := gv) (gh := gh) (gb := gb) (gs := gs) (ge := ge) (l := lgV V.l) (e := 16) (e0 := 0) (by decide)) rfl pick_ ?_
      rintro _ rfl
      exact fin ⟨_, rfl, V, rfl, VS.refl k, .inr ⟨rfl, h5⟩⟩
theorem f58 (k : VK C V) (hk : V.b.k < 1099400000000) : Ct Tryz.prog 58 [PP gv] (VtM gv gh gb gs V) (fun v L => ∃ V' : Vlt, L = VtM gv gh gb gs V' ∧ FlQ C 20000000 V V' v) := by
  have h73 := f73v (gv := gv) (gh := gh) (gb := gb) (gs := gs) k
  have h77 := f77v (gv := gv) (gh := gh) (gb := gb) (gs := gs) k.hb.ok
  have h100 := f100 (gh := gh) (gb := gb) (h := V.h) (b := V.b) k.hb (by omega)
  refine w_ct Tryz.func58 rfl Tryz.ntmps58 rfl fun w B => ?_
  refine W1 fun ge => ?_
  refine cv h73 ?_
  refine W ?_
  refine w_dfr rfl rfl ?_
  refine W ?_
  refine clP h77 (fun v M hq => ?_) (fun v M hq => ?_)
  · obtain ⟨rfl, (⟨e, h5⟩ | ⟨e, h5⟩)⟩ := hq
    · cases e
      refine W ?_
      refine cl' h100 ?_
      rintro v _ ⟨h', b', rfl, hs, (⟨rfl, h6, hset⟩ | ⟨rfl, h6⟩)⟩
      · have hv1 := k.hs hs
        have hg : h'.r.g = V.h.r.g := hs.re.g
        have hkb := hs.be.k2
        obtain ⟨h, b, s, l⟩ := V
        have hg : h'.r.g = h.r.g := hg
        have hsk : SK h'.r.g s l := (hv1.ok.sk h6).1
        refine W ?_
        refine cv f79v ?_
        cases l with
        | none =>
          refine W ?_
          refine fin_dret f76r rfl Pick.nil ?_
          rintro _ rfl
          refine finE ⟨_, rfl, ⟨h', b', s, none⟩, rfl, hv1.mono (by omega), .inl ⟨rfl, h6⟩⟩ ?_
          show Ent _ [_, _, _, ShC gs h'.r.g _, _, _]
          rw [hg]; exact ent_
        | some x =>
          obtain ⟨gl, lg⟩ := x
          have hsk2 : SK h.r.g s (some (gl, lg)) := by rw [← hg]; exact hsk
          have hlo : LgOk lg b'.k := hv1.ok.lo.2.1
          have hf2 := hlo.f2
          refine g_eq (L2 := [huC gh gb h', BenC gb b', vtC gv gh gb gs (PP gl), ShC gs h.r.g s, LogC gl gb lg, glC, cl ge [I 0] 39]) rfl ?_
          have h102 := f102 (gl := gl) (gb := gb) (l := lg) (by omega)
          have hkb0 : b'.k ≤ b.k + 9600 := hkb
          have hkk : b.k < 1099400000000 := hk
          have h103a : ∀ j, j ≤ lg.live.length → (∀ n, (s.F n).drt = true → lg.first + j ≤ (s.F n).first) → Ct Tryz.prog 103 [PP gv, U (lg.first + j)] [vtC gv gh gb gs (PP gl), huC gh gb h', BenC gb b', ShC gs h.r.g s, LogC gl gb lg, glC] (fun v L => ∃ V' : Vlt, v = T [] ∧ VS C C 9640000 ⟨h', b', s, some (gl, lg)⟩ V' ∧ L = VtM gv gh gb gs V' ∧ ((V'.l = some (gl, lg.clr j) ∧ V'.s = s ∧ V'.h = h') ∨ V'.out)) := by
            intro j hj hf
            have := f103 (gv := gv) (gh := gh) (gb := gb) (gs := gs) (gl := gl) (lg := lg) (j := j) hv1.ok rfl hj (fun _ => hf) (by show b'.k < _; omega)
            rw [← hg]; exact this
          refine g_shp rfl (sel_ : Sel (ShC gs h.r.g s) _ _) fun hp => ?_
          have hr20 := hsk2.r
          have h101 := f101 (gs := gs) (g := h.r.g) (s := s) k.g (by have := hp.le; omega) hsk2.f0
          refine W ?_
          refine cl' h101 ?_
          rintro _ _ ⟨x, rfl, rfl, (⟨hnd, rfl⟩ | ⟨⟨n, hn, hx⟩, hmin⟩)⟩
          · refine W ?_
            refine cv h102 ?_
            have h103 := h103a lg.live.length (Nat.le_refl _) (fun n hn => by rw [hnd n] at hn; cases hn)
            refine W ?_
            refine cl' h103 ?_
            rintro _ _ ⟨V1, rfl, hv2, rfl, hor⟩
            have hv := hv1.trans hv2
            have h77 := f77v (gv := gv) (gh := gh) (gb := gb) (gs := gs) hv.ok.hb.ok
            refine W ?_
            refine clP h77 (fun v M hq => ?_) (fun v M hq => ?_)
            · obtain ⟨rfl, (⟨e, h5⟩ | ⟨e, h5⟩)⟩ := hq
              · cases e
                refine W ?_
                refine fin_dret f76r rfl Pick.nil ?_
                rintro _ rfl
                exact fin ⟨_, rfl, V1, rfl, hv.mono (by omega), .inl ⟨rfl, h5⟩⟩
              · cases e
            · obtain ⟨rfl, (⟨e, h5⟩ | ⟨e, h5⟩)⟩ := hq
              · cases e
              · cases e
                refine w_pan ?_
                refine fin_dpan (f76p (gv := gv) (gh := gh) (gb := gb) (gs := gs) (ge := ge) (l := lgV V1.l) (e := 16) (e0 := 0) (by decide)) rfl pick_ ?_
                rintro _ rfl
                exact fin ⟨_, rfl, V1, rfl, hv.mono (by omega), .inr ⟨rfl, h5⟩⟩
          · have hf := hsk2.f0 n hn
            have hfl := hsk2.fl n hn (gl, lg) rfl
            have hfl : lg.first ≤ (s.F n).first ∧ (s.F n).first < lg.first + lg.live.length := hfl
            rw [← hx] at hf hfl
            have h103 := h103a (x - lg.first) (by omega) (fun n hn => by have := hmin n hn; omega)
            rw [show lg.first + (x - lg.first) = x by omega] at h103
            refine W ?_
            rw [decide_eq_false (show ¬ ((x : Nat) : Int) = 0 by omega)]
            refine W ?_
            refine cl' h103 ?_
            rintro _ _ ⟨V1, rfl, hv2, rfl, hor⟩
            have hv := hv1.trans hv2
            have h77 := f77v (gv := gv) (gh := gh) (gb := gb) (gs := gs) hv.ok.hb.ok
            refine W ?_
            refine clP h77 (fun v M hq => ?_) (fun v M hq => ?_)
            · obtain ⟨rfl, (⟨e, h5⟩ | ⟨e, h5⟩)⟩ := hq
              · cases e
                refine W ?_
                refine fin_dret f76r rfl Pick.nil ?_
                rintro _ rfl
                exact fin ⟨_, rfl, V1, rfl, hv.mono (by omega), .inl ⟨rfl, h5⟩⟩
              · cases e
            · obtain ⟨rfl, (⟨e, h5⟩ | ⟨e, h5⟩)⟩ := hq
              · cases e
              · cases e
                refine w_pan ?_
                refine fin_dpan (f76p (gv := gv) (gh := gh) (gb := gb) (gs := gs) (ge := ge) (l := lgV V1.l) (e := 16) (e0 := 0) (by decide)) rfl pick_ ?_
                rintro _ rfl
                exact fin ⟨_, rfl, V1, rfl, hv.mono (by omega), .inr ⟨rfl, h5⟩⟩
      · have hv1 := k.hs hs
        have hg : h'.r.g = V.h.r.g := hs.re.g
        refine W ?_
        refine clP (f79q (e := 16) (by decide)) (fun v M hq => ?_) (fun v M hq => ?_)
        · cases hq.1
        · obtain ⟨e, rfl⟩ := hq
          cases e
          refine w_pan ?_
          refine fin_dpan (f76p (gv := gv) (gh := gh) (gb := gb) (gs := gs) (ge := ge) (l := lgV V.l) (e := 16) (e0 := 0) (by decide)) rfl pick_ ?_
          rintro _ rfl
          refine finE ⟨_, rfl, ⟨h', b', V.s, V.l⟩, rfl, hv1.mono (by omega), .inr ⟨rfl, h6⟩⟩ ?_
          show Ent _ [_, _, _, ShC gs h'.r.g _, _, _]
          rw [hg]; exact ent_
    · cases e
  · obtain ⟨rfl, (⟨e, h5⟩ | ⟨e, h5⟩)⟩ := hq
    · cases e
    · cases e
      refine w_pan ?_
      refine fin_dpan (f76p (gv := gv) (gh := gh) (gb := gb) (gs := gs) (ge := ge) (l := lgV V.l) (e := 16) (e0 := 0) (by decide)) rfl pick_ ?_
      rintro _ rfl
      exact fin ⟨_, rfl, V, rfl, VS.refl k, .inr ⟨rfl, h5⟩⟩
end
end Go.Proofs.YtnilejkfbcnkkaaGreatDoor.V
end
