/- Proved: Spare; Spare; AddLog; all that a transaction wrote; the conditions stand in the statements. -/
import Derived.Test.YtnilejkfbcnkkaaGreatDoorM19
set_option linter.unusedVariables false
set_option linter.unusedSimpArgs false
set_option linter.unusedSectionVars false
section
set_option maxRecDepth 100000
set_option maxHeartbeats 1000000
namespace Go.Proofs.YtnilejkfbcnkkaaGreatDoor.V
variable [GlK]
open Go Go.RowKit
attribute [local irreducible] Yields cl blk pur rowc sv exC fo xorb blk0

/-- a device put in -/
def Ben.ins (b : Ben) (j : Nat) (dv : Dev) : Ben := ⟨b.ds.set j ⟨dv.n, fun _ => blk0, false⟩, b.k⟩
theorem ins_rd {b : Ben} {j i s : Nat} {dv : Dev} (hi : i ≠ j) : (b.ins j dv).rd i s = b.rd i s := by
  unfold Ben.rd Ben.ins
  show (match (b.ds.set j _)[i]? with | some dv => dv.rd s | none => blk0) = _
  rw [List.getElem?_set_ne (Ne.symm hi)]
  rfl
theorem ins_dead {b : Ben} {j i : Nat} {dv : Dev} (hd : b.ds[j]? = some dv) : (b.ins j dv).dead i = if i = j then false else b.dead i := by
  have hl := (List.getElem?_eq_some_iff.1 hd).1
  unfold Ben.dead Ben.ins
  by_cases e : i = j
  · subst e
    simp [List.getElem?_set_self hl]
  · simp [List.getElem?_set_ne (Ne.symm e), e]
theorem ins_sz {b : Ben} {j i : Nat} {dv dv' : Dev} (hd : b.ds[j]? = some dv) (h : (b.ins j dv).ds[i]? = some dv') : ∃ x, b.ds[i]? = some x ∧ x.n = dv'.n := by
  have hl := (List.getElem?_eq_some_iff.1 hd).1
  have h : (b.ds.set j _)[i]? = some dv' := h
  by_cases e : i = j
  · subst e
    rw [List.getElem?_set_self hl] at h
    cases h
    exact ⟨dv, hd, rfl⟩
  · rw [List.getElem?_set_ne (Ne.symm e)] at h
    exact ⟨dv', h, rfl⟩
section
variable {C : Nat → Nat → Blk} {h : Hul} {b : Ben} {s : Shf} {l : Option (Nat × Lg)} {j : Nat} {dv : Dev}
theorem VK.ins (k : VK C ⟨h, b, s, l⟩) (hd : b.ds[j]? = some dv) (hj : j < h.r.g.m → ∀ n, h.r.has j n = false) : VK C ⟨h, b.ins j dv, s, l⟩ := by
  refine ⟨⟨⟨k.hb.ok, by show (b.ds.set _ _).length = _; rw [List.length_set]; exact k.hb.len, fun i x hi hx => ?_⟩, k.id, ?_, k.lo.up rfl rfl (Nat.le_refl _), k.cx, fun h5 => ?_⟩, k.ne⟩
  · obtain ⟨y, hy, e⟩ := ins_sz hd hx
    rw [← e]; exact k.hb.n i y hi hy
  · obtain ⟨y, hy, e⟩ := k.ld
    have hl := (List.getElem?_eq_some_iff.1 hy).1
    have hl2 : h.r.g.m < (b.ins j dv).ds.length := by show _ < (b.ds.set _ _).length; rw [List.length_set]; exact hl
    obtain ⟨z, hz, e2⟩ := ins_sz hd (List.getElem?_eq_getElem hl2)
    have hy : b.ds[h.r.g.m]? = some y := hy
    rw [hy] at hz
    cases hz
    exact ⟨_, List.getElem?_eq_getElem hl2, by rw [← e2]; exact e⟩
  · obtain ⟨sk, B, sb⟩ := k.sk h5
    refine ⟨sk, B, sb.bx, fun n m hm hh hdd => ?_, sb.kn, sb.cl⟩
    have hm : m < h.r.g.m := hm
    have hh : h.r.has m n = true := hh
    have hmj : m ≠ j := by
      rintro rfl
      rw [hj hm n] at hh; cases hh
    have hdd : (b.ins j dv).dead m = false := hdd
    rw [ins_dead hd, if_neg hmj] at hdd
    show (b.ins j dv).rd m (2 + n) = _
    rw [ins_rd hmj]
    exact sb.dk n m hm hh hdd
theorem cnt_all {st : Nat → Nat} : ∀ {n : Nat}, (∀ i, i < n → st i ≤ 2) → cnt st 0 n + cnt st 1 n + cnt st 2 n = n
  | 0, _ => by unfold cnt; rfl
  | n + 1, h => by
    have ih := cnt_all (n := n) fun i hi => h i (by omega)
    have := h n (by omega)
    unfold cnt
    have h3 : st n = 0 ∨ st n = 1 ∨ st n = 2 := by omega
    rcases h3 with e | e | e <;> simp [e] <;> omega
theorem cnt_psv {st : Nat → Nat} {k : Nat} : ∀ {n j : Nat}, j < n → st j = k → 1 ≤ cnt st k n
  | n + 1, j, h, e => by
    unfold cnt
    by_cases c : j = n
    · subst c; simp [e]
    · have := cnt_psv (n := n) (show j < n by omega) e
      omega
/-- the one that is lost, where at most one is missing -/
theorem one_lost {r : Ros} (hr : RosOk r) (hj : j < r.g.m) (h1 : r.st j = 1) (hm : r.missing ≤ 1) : cnt r.st 2 16 = 0 ∧ ∀ i, i < 16 → i ≠ j → r.st i = 0 := by
  have hm16 := hr.ge.m16
  have ha := cnt_all (n := 16) hr.lo
  have hp := cnt_psv (k := 1) (n := 16) (show j < 16 by omega) h1
  have hmm : 16 - cnt r.st 0 16 ≤ 1 := hm
  refine ⟨by omega, fun i hi hne => ?_⟩
  have h2 : r.st i ≠ 2 := cnt_zero (n := 16) (by omega) i hi
  have h11 : cnt r.st 1 16 = 1 := by omega
  have h3 : r.st i ≠ 1 := fun e => hne (cnt_uniq h11 (by omega) hi h1 e)
  have := hr.lo i hi
  omega
theorem VK.beg (k : VK C ⟨h, b, s, l⟩) (hj : j < h.r.g.m) (h1 : h.r.st j = 1) (hm : h.r.missing ≤ 1) : VK C ⟨{ h with r := { h.r.set j 2 with cur := 0 } }, b, s, l⟩ ∧ (({ h.r.set j 2 with cur := 0 } : Ros).state = 5 ↔ h.r.state = 5) := by
  have hm16 := k.g.m16
  have hm16' : h.r.g.m ≤ 16 := hm16
  obtain ⟨hc2, hoth⟩ := one_lost k.hb.ok hj h1 hm
  have hc2 : cnt h.r.st 2 16 = 0 := hc2
  have hst : ∀ i, ({ h.r.set j 2 with cur := 0 } : Ros).st i = if i = j then 2 else h.r.st i := fun _ => rfl
  have hhas : ∀ m n, m < 16 → ({ h.r.set j 2 with cur := 0 } : Ros).has m n = h.r.has m n := by
    intro m n hm
    unfold Ros.has
    show (decide ((if m = j then 2 else h.r.st m) = 0) || (decide ((if m = j then 2 else h.r.st m) = 2) && decide (n < 0))) = _
    by_cases e : m = j
    · subst e; simp [h1]
    · have this : h.r.st m = 0 := hoth m hm e
      simp [e, this]
  have hmis : ({ h.r.set j 2 with cur := 0 } : Ros).missing = h.r.missing := by
    unfold Ros.missing
    have := cnt_set (st := h.r.st) (k := 0) (m := j) (s := 2) (n := 16) (by omega)
    rw [h1] at this
    simp at this
    show 16 - cnt (fun i => if i = j then 2 else h.r.st i) 0 16 = _
    omega
  have h5e : ({ h.r.set j 2 with cur := 0 } : Ros).state = 5 ↔ h.r.state = 5 := by
    rw [state5_iff, state5_iff, hmis]
    exact Iff.rfl
  refine ⟨⟨⟨⟨⟨k.g, ?_, fun i hi => ?_, fun i hi hi2 => ?_, ?_⟩, k.hb.len, k.hb.n⟩, k.id, k.ld, ?_, k.cx, fun h5 => ?_⟩, fun hl h5 => k.ne hl fun e => h5 (h5e.2 e)⟩, h5e⟩
  · have := k.g.s1; show 0 < h.r.g.s; exact this
  · rw [hst]; split
    · omega
    · exact k.hb.ok.lo i hi
  · rw [hst]
    have hi : h.r.g.m ≤ i := hi
    rw [if_neg (by omega)]
    exact k.hb.ok.hi i hi hi2
  · left
    have := cnt_set (st := h.r.st) (k := 2) (m := j) (s := 2) (n := 16) (by omega)
    rw [h1] at this
    simp at this
    show cnt (fun i => if i = j then 2 else h.r.st i) 2 16 = 1
    omega
  · have := k.lo
    cases l with
    | none => exact this
    | some x => exact this
  · obtain ⟨sk, B, sb⟩ := k.sk fun e => h5 (h5e.2 e)
    refine ⟨sk, B, sb.bx, fun n m hm hh hdd => ?_, sb.kn, fun n m hn hm hdr => ?_⟩
    · have hm : m < h.r.g.m := hm
      have hh : ({ h.r.set j 2 with cur := 0 } : Ros).has m n = true := hh
      rw [hhas m n (by omega)] at hh
      exact sb.dk n m hm hh hdd
    · have hm : m < h.r.g.m := hm
      rcases sb.cl n m hn hm hdr with e | ⟨e1, e2⟩
      · exact .inl e
      · right
        refine ⟨e1, ?_⟩
        show ({ h.r.set j 2 with cur := 0 } : Ros).has m n = false
        rw [hhas m n (by omega)]; exact e2
end
end Go.Proofs.YtnilejkfbcnkkaaGreatDoor.V
end
section
set_option maxRecDepth 100000
set_option maxHeartbeats 1000000
namespace Go.Proofs.YtnilejkfbcnkkaaGreatDoor.V
variable [GlK]
open Go Go.RowKit
attribute [local irreducible] Yields cl blk pur rowc sv exC fo cnt xorb blk0

section
variable {n : Fp} {w0 : World} {S : Nat → Prop} {X : Post} {R : Regs} {L K : Hp} {kd : Kd}
theorem g_dvn {gb : Nat} {b : Ben} {i : Nat} {d : Dev} (hk : kd.plain = true) (hs : Sel (BenC gb b) L K) (hi : b.ds[i]? = some d) (h : 0 < d.n ∧ d.n ≤ 512 → Gl n w0 S X kd R L) : Gl n w0 S X kd R L := by
  refine g_ben hk hs hi fun gs cs ps st p h1 h2 h3 h4 h5 hp => ?_
  refine g_ex hk (Sel.tl (Sel.tl Sel.hd)) fun ⟨gs', cs', al, c, sure, loose⟩ => ?_
  refine g_pure hk Sel.hd fun ⟨q1, q2, q3, q4, q5, q6, q7⟩ => ?_
  refine g_ent hk ?_ (h ⟨q2, q3⟩)
  refine Ent.trans ?_ (Ent.perm (List.Perm.symm hs))
  refine ent_ben0 (gs := gs) (cs := cs) h1 h2 h3 h4 h5 hp hi ?_
  refine Ent.sel sel_ (Ent.sel sel_ ?_)
  refine ent_ex (gs', cs', al, c, sure, loose) (ent_pur ⟨q1, q2, q3, q4, q5, q6, q7⟩ ent_)
end
/-- what a spare's putting in comes to -/
def SpQ (C : Nat → Nat → Blk) (j : Nat) (V V' : Vlt) (v : Value) : Prop :=
  (v = I 17 ∧ VS C C 10000 V V' ∧ V'.h.r.state ≠ 5) ∨ (v = I 16 ∧ VS C C 10000 V V' ∧ V'.h.r.state = 5) ∨
  (v = I 0 ∧ VK C V' ∧ V'.b.k ≤ V.b.k + 10000 ∧ V'.h.id = V.h.id ∧ V'.h.r.g = V.h.r.g ∧ V'.h.r.gone = V.h.r.gone ∧ V'.b.dead j = false ∧ (V.h.r.st j = 1 ∨ V.b.dead j = true) ∧
    (∀ i, i ≠ j → V'.b.dead i = V.b.dead i) ∧ (∀ i, i ≠ j → V'.h.r.st i = V.h.r.st i ∨ (V.b.dead i = true ∧ V'.h.r.st i = 1)))
section
variable {gv gh gb gs : Nat} {C C' : Nat → Nat → Blk} {V : Vlt}
theorem f111 {j : Nat} (k : VK C V) (hj : j < V.h.r.g.m) (hk : V.b.k < 1099400000000) : Ct Tryz.prog 111 [PP gv, I j] (VtM gv gh gb gs V) (fun v L => ∃ V' : Vlt, L = VtM gv gh gb gs V' ∧ SpQ C j V V' v) := by
  have h73 := f73v (gv := gv) (gh := gh) (gb := gb) (gs := gs) k
  have h77 := f77v (gv := gv) (gh := gh) (gb := gb) (gs := gs) k.hb.ok
  have h75 := f75 (gv := gv) (gh := gh) (gb := gb) (gs := gs) (l := lgV V.l) (h := V.h)
  refine w_ct Tryz.func111 rfl Tryz.ntmps111 rfl fun w B => ?_
  refine W1 fun ge => ?_
  refine cv h73 ?_
  refine W ?_
  rw [decide_eq_false (show ¬ ((j : Nat) : Int) < 0 by omega)]
  refine W ?_
  first | refine cv h75 ?_ | refine cq h75 ?_ | refine w_gU (by rfl) (by rfl) (by rfl) (by rfl) (by rfl) ?_
  refine W ?_
  rw [decide_eq_false (show ¬ ((V.h.r.g.m : Nat) : Int) ≤ j by omega)]
  refine W ?_
  refine w_dfr rfl rfl ?_
  refine W ?_
  refine clP h77 (fun v M hq => ?_) (fun v M hq => ?_)
  · obtain ⟨rfl, (⟨e, h5⟩ | ⟨e, h5⟩)⟩ := hq
    · cases e
      obtain ⟨h, b, s, l⟩ := V
      cases l with
      | none =>
        refine W ?_
        refine fin_dret f76r rfl Pick.nil ?_
        rintro _ rfl
        exact fin ⟨_, rfl, ⟨h, b, s, none⟩, rfl, .inl ⟨rfl, VS.refl k, h5⟩⟩
      | some x =>
        obtain ⟨gl, lg⟩ := x
        have hgone : h.r.gone = false := k.lo.1
        have h174 := f174 (gh := gh) (gb := gb) (h := h) (b := b) (j := j) k.hb hj (by have : b.k < _ := hk; omega)
        refine g_eq (L2 := [vtC gv gh gb gs (PP gl), huC gh gb h, BenC gb b, ShC gs h.r.g s, LogC gl gb lg, glC, cl ge [I 0] 39]) rfl ?_
        refine W ?_
        refine cl' h174 ?_
        rintro _ _ ⟨h', b', rfl, rfl, hs, hdl, hor⟩
        have hv1 := k.hs hs
        have hg : h'.r.g = h.r.g := hs.re.g
        refine W ?_
        refine cv f79v ?_
        have h77 := f77 (gv := gv) (gh := gh) (gb := gb) (gs := gs) (l := PP gl) (h := h') hv1.ok.hb.ok
        refine W ?_
        refine clP h77 (fun v M hq => ?_) (fun v M hq => ?_)
        · obtain ⟨rfl, (⟨e, h6⟩ | ⟨e, h6⟩)⟩ := hq
          · cases e
            have h41 := f41 (gh := gh) (gb := gb) (h := h')
            refine W ?_
            refine cv h41 ?_
            have hm16 := hv1.ok.g.m16
            have hm16 : h'.r.g.m ≤ 16 := hm16
            have hj' : j < h'.r.g.m := by rw [hg]; exact hj
            refine W ?_
            refine w_y rfl rfl rfl (y_fN (vs := stL h'.r.st) rfl sg_) ?_
            refine W ?_
            refine w_y rfl rfl rfl (y_ixVal rfl rfl (UT.h (P := Tryz.prog)) (SZ.h (P := Tryz.prog)) (UT.h (P := Tryz.prog)) rfl (by omega) (by omega) (stAt (by omega))) ?_
            refine W ?_
            by_cases hst : h'.r.st j = 1
            · rw [decide_eq_false (show ¬ ((h'.r.st j : Int) ≠ 1) by omega)]
              have hmis : h'.r.missing ≤ 1 := by
                refine Nat.le_of_not_lt fun h => h6 (state5_iff.2 (.inl h))
              have hgone' : h'.r.gone = false := hs.re.gone.trans hgone
              obtain ⟨dv, hd⟩ := hv1.ok.hb.dv (j := j) (by show j ≤ h'.r.g.m; omega)
              have hd : b'.ds[j]? = some dv := hd
              have h14 := f14 (gb := gb) (b := b') hd
              have hkb : b'.k ≤ b.k + 600 := hs.be.k2
              have hkk : b.k < 1099400000000 := hk
              have hnh : ∀ n, h'.r.has j n = false := fun n => by unfold Ros.has; simp [hst]
              have hdor : h.r.st j = 1 ∨ b.dead j = true := by
                rcases hs.re.st j with e | ⟨_, e, _⟩
                · exact .inl (e ▸ hst)
                · exact .inr e
              refine W ?_
              refine cv h14 ?_
              cases hdd : dv.dead with
              | true =>
                refine g_dvn rfl (sel_ : Sel (BenC gb b') _ _) hd fun hsz => ?_
                have h175 := f175 (gb := gb) (b := b') hd hsz.1 hsz.2
                refine W ?_
                refine cl' h175 ?_
                rintro _ _ (⟨e, _, _⟩ | ⟨_, rfl, rfl⟩)
                · rw [hdd] at e; cases e
                · have k2 := hv1.ok.ins hd fun _ => hnh
                  obtain ⟨k3, h5e⟩ := k2.beg hj' hst hmis
                  have h176 := f176 (gh := gh) (gb := gb) (h := h') (j := j) hv1.ok.hb.ok hj'
                  refine W ?_
                  refine cv f79v ?_
                  refine W ?_
                  refine cl' h176 ?_
                  rintro _ _ (⟨rfl, _, _, _, rfl⟩ | ⟨_, e, _⟩)
                  · have h88 := f88 (gh := gh) (gb := gb) (b := b'.ins j dv) k3.hb (by show b'.k < _; omega)
                    refine W ?_
                    refine cv f79v ?_
                    refine W ?_
                    refine cl' h88 ?_
                    rintro _ _ ⟨h2, b2, rfl, rfl, hs2, hset⟩
                    refine W ?_
                    refine cv f79v ?_
                    refine W ?_
                    refine fin_dret f76r rfl Pick.nil ?_
                    rintro _ rfl
                    have hv4 := k3.hs hs2
                    have hg2 : h2.r.g = h'.r.g := hs2.re.g
                    refine finE ⟨_, rfl, ⟨h2, b2, s, some (gl, lg)⟩, rfl, .inr (.inr ⟨rfl, hv4.ok, ?_, hs2.id.trans hs.id, hg2.trans hg, hs2.re.gone.trans hs.re.gone, ?_, hdor, ?_, ?_⟩)⟩ ?_
                    · have : b2.k ≤ b'.k + 600 := hs2.be.k2
                      show b2.k ≤ b.k + 10000
                      omega
                    · show b2.dead j = false
                      rw [hs2.be.dead, ins_dead hd]; simp
                    · intro i hi
                      show b2.dead i = b.dead i
                      rw [hs2.be.dead, ins_dead hd, if_neg hi, hs.be.dead]
                    · intro i hi
                      show h2.r.st i = h.r.st i ∨ (b.dead i = true ∧ h2.r.st i = 1)
                      have hx : ({ h'.r.set j 2 with cur := 0 } : Ros).st i = h'.r.st i := by
                        show (if i = j then 2 else h'.r.st i) = _
                        rw [if_neg hi]
                      rcases hs2.re.st i with e | ⟨_, e1, e2⟩
                      · rw [e]
                        show ({ h'.r.set j 2 with cur := 0 } : Ros).st i = _ ∨ (_ ∧ ({ h'.r.set j 2 with cur := 0 } : Ros).st i = 1)
                        rw [hx]
                        rcases hs.re.st i with f | ⟨_, f1, f2⟩
                        · exact .inl f
                        · exact .inr ⟨f1, f2⟩
                      · right
                        rw [ins_dead hd, if_neg hi, hs.be.dead] at e1
                        exact ⟨e1, e2⟩
                    · show Ent _ [_, _, _, ShC gs h2.r.g s, LogC gl gb lg, _]
                      rw [hg2, hg]; exact ent_
                  · exact absurd ⟨hst, hmis, hgone'⟩ e
              | false =>
                obtain ⟨k3, h5e⟩ := hv1.ok.beg hj' hst hmis
                have h176 := f176 (gh := gh) (gb := gb) (h := h') (j := j) hv1.ok.hb.ok hj'
                refine W ?_
                refine cl' h176 ?_
                rintro _ _ (⟨rfl, _, _, _, rfl⟩ | ⟨_, e, _⟩)
                · have h88 := f88 (gh := gh) (gb := gb) (b := b') k3.hb (by show b'.k < _; omega)
                  refine W ?_
                  refine cv f79v ?_
                  refine W ?_
                  refine cl' h88 ?_
                  rintro _ _ ⟨h2, b2, rfl, rfl, hs2, hset⟩
                  refine W ?_
                  refine cv f79v ?_
                  refine W ?_
                  refine fin_dret f76r rfl Pick.nil ?_
                  rintro _ rfl
                  have hv4 := k3.hs hs2
                  have hg2 : h2.r.g = h'.r.g := hs2.re.g
                  refine finE ⟨_, rfl, ⟨h2, b2, s, some (gl, lg)⟩, rfl, .inr (.inr ⟨rfl, hv4.ok, ?_, hs2.id.trans hs.id, hg2.trans hg, hs2.re.gone.trans hs.re.gone, ?_, hdor, ?_, ?_⟩)⟩ ?_
                  · have : b2.k ≤ b'.k + 600 := hs2.be.k2
                    show b2.k ≤ b.k + 10000
                    omega
                  · show b2.dead j = false
                    rw [hs2.be.dead, Ben.dead_eq hd]; exact hdd
                  · intro i hi
                    show b2.dead i = b.dead i
                    rw [hs2.be.dead, hs.be.dead]
                  · intro i hi
                    show h2.r.st i = h.r.st i ∨ (b.dead i = true ∧ h2.r.st i = 1)
                    have hx : ({ h'.r.set j 2 with cur := 0 } : Ros).st i = h'.r.st i := by
                      show (if i = j then 2 else h'.r.st i) = _
                      rw [if_neg hi]
                    rcases hs2.re.st i with e | ⟨_, e1, e2⟩
                    · rw [e]
                      show ({ h'.r.set j 2 with cur := 0 } : Ros).st i = _ ∨ (_ ∧ ({ h'.r.set j 2 with cur := 0 } : Ros).st i = 1)
                      rw [hx]
                      rcases hs.re.st i with f | ⟨_, f1, f2⟩
                      · exact .inl f
                      · exact .inr ⟨f1, f2⟩
                    · right
                      rw [hs.be.dead] at e1
                      exact ⟨e1, e2⟩
                  · show Ent _ [_, _, _, ShC gs h2.r.g s, LogC gl gb lg, _]
                    rw [hg2, hg]; exact ent_
                · exact absurd ⟨hst, hmis, hgone'⟩ e
            · rw [decide_eq_true (show ((h'.r.st j : Int) ≠ 1) by omega)]
              refine W ?_
              refine fin_dret f76r rfl Pick.nil ?_
              rintro _ rfl
              refine finE ⟨_, rfl, ⟨h', b', s, some (gl, lg)⟩, rfl, .inl ⟨rfl, hv1.mono (by omega), h6⟩⟩ ?_
              show Ent _ [_, _, _, ShC gs h'.r.g s, LogC gl gb lg, _]
              rw [hg]; exact ent_
          · cases e
        · obtain ⟨rfl, (⟨e, h6⟩ | ⟨e, h6⟩)⟩ := hq
          · cases e
          · cases e
            refine w_pan ?_
            refine fin_dpan (f76p (gv := gv) (gh := gh) (gb := gb) (gs := gs) (ge := ge) (l := PP gl) (e := 16) (e0 := 0) (by decide)) rfl pick_ ?_
            rintro _ rfl
            refine finE ⟨_, rfl, ⟨h', b', s, some (gl, lg)⟩, rfl, .inr (.inl ⟨rfl, hv1.mono (by omega), h6⟩)⟩ ?_
            show Ent _ [_, _, _, ShC gs h'.r.g s, LogC gl gb lg, _]
            rw [hg]; exact ent_
    · cases e
  · obtain ⟨rfl, (⟨e, h5⟩ | ⟨e, h5⟩)⟩ := hq
    · cases e
    · cases e
      refine w_pan ?_
      refine fin_dpan (f76p (gv := gv) (gh := gh) (gb := gb) (gs := gs) (ge := ge) (l := lgV V.l) (e := 16) (e0 := 0) (by decide)) rfl pick_ ?_
      rintro _ rfl
      exact fin ⟨_, rfl, V, rfl, .inr (.inl ⟨rfl, VS.refl k, h5⟩)⟩
end
end Go.Proofs.YtnilejkfbcnkkaaGreatDoor.V
end
section
set_option maxRecDepth 100000
set_option maxHeartbeats 1000000
namespace Go.Proofs.YtnilejkfbcnkkaaGreatDoor.V
variable [GlK]
open Go Go.RowKit
attribute [local irreducible] Yields cl blk pur rowc sv exC fo cnt xorb blk0

theorem LgOk.fres {d id ring k : Nat} (h0 : 0 < id) (h1 : 40 ≤ ring) (h2 : ring ≤ 256) : LgOk (fresLg d id ring) k := by
  refine ⟨h0, h1, h2, Nat.le_refl _, ?_, Nat.le_refl _, ?_, Nat.le_refl _, ?_, Nat.zero_le _, ?_, ?_, fun _ => rfl, List.Pairwise.nil⟩
  · show 1 ≤ k + 1; omega
  · show 1 + 0 ≤ k + 1; omega
  · show 0 - 0 ≤ ring; omega
  · show 0 ≤ 8; omega
  · intro x hx; cases hx
section
variable {C : Nat → Nat → Blk} {h : Hul} {b b' : Ben} {s : Shf} {c gl : Nat}
theorem VK.log (k : VK C ⟨h, b, s, none⟩) (h5 : h.r.state ≠ 5) (e : LE h.r.g.m c b b') : VK C ⟨{ h with r := { h.r with gone := false } }, b', s, some (gl, fresLg h.r.g.m h.id h.r.g.r)⟩ := by
  obtain ⟨sk, B, sb⟩ := k.sk h5
  have hne := k.ne rfl h5
  have hne : ∀ n, (s.F n).drt = false := hne
  refine ⟨⟨⟨⟨k.g, k.hb.ok.cur, k.hb.ok.lo, k.hb.ok.hi, k.hb.ok.one⟩, (k.hb.le e rfl).len, (k.hb.le e rfl).n⟩, k.id, ?_, ⟨rfl, LgOk.fres k.id k.g.r40 k.g.r256, rfl, rfl⟩, k.cx, fun h5 => ⟨⟨sk.kd, sk.dk, sk.pin, sk.hi, sk.r, sk.f0, sk.fz, fun n hn => ?_⟩, B, sb.bx, fun n m hm hh hd => ?_, sb.kn, sb.cl⟩⟩, fun hl => by cases hl⟩
  · obtain ⟨dv, h1, h2⟩ := k.ld
    obtain ⟨dv', h3, h4, _⟩ := e.dev h1
    exact ⟨dv', h3, by show 10 + h.r.g.r ≤ dv'.n; have : 10 + h.r.g.r ≤ dv.n := h2; omega⟩
  · have := hne n
    rw [this] at hn; cases hn
  · have hm' : m < h.r.g.m := hm
    show b'.rd m (2 + n) = _
    rw [e.rd (by omega)]
    have hd' : b'.dead m = false := hd
    rw [e.dead] at hd'
    exact sb.dk n m hm hh hd'
end
/-- what a new log's putting in comes to -/
def AlQ (C : Nat → Nat → Blk) (V V' : Vlt) (v : Value) : Prop :=
  (v = I 17 ∧ V' = V ∧ V.h.r.gone = false) ∨ (v = I 16 ∧ V' = V ∧ V.h.r.state = 5) ∨
  (v = I 0 ∧ VK C V' ∧ V'.b.k ≤ V.b.k + 10000 ∧ V'.h.id = V.h.id ∧ V'.h.r.g = V.h.r.g ∧ V'.h.r.gone = false ∧ V.h.r.gone = true ∧ V'.b.dead V.h.r.g.m = false ∧
    (∀ i, i ≠ V.h.r.g.m → V'.b.dead i = V.b.dead i) ∧ (∀ i, V'.h.r.st i = V.h.r.st i ∨ (i < V.h.r.g.m ∧ V.b.dead i = true ∧ V'.h.r.st i = 1)))
section
variable {gv gh gb gs : Nat} {C C' : Nat → Nat → Blk} {V : Vlt}
theorem f112 (k : VK C V) (hk : V.b.k < 1099400000000) : Ct Tryz.prog 112 [PP gv] (VtM gv gh gb gs V) (fun v L => ∃ V' : Vlt, L = VtM gv gh gb gs V' ∧ AlQ C V V' v) := by
  have h73 := f73v (gv := gv) (gh := gh) (gb := gb) (gs := gs) k
  have h77 := f77v (gv := gv) (gh := gh) (gb := gb) (gs := gs) k.hb.ok
  have h75 := f75 (gv := gv) (gh := gh) (gb := gb) (gs := gs) (l := lgV V.l) (h := V.h)
  have h41 := f41 (gh := gh) (gb := gb) (h := V.h)
  refine w_ct Tryz.func112 rfl Tryz.ntmps112 rfl fun w B => ?_
  refine W1 fun ge => ?_
  refine cv h73 ?_
  refine W ?_
  refine cv h41 ?_
  refine W ?_
  cases hgn : V.h.r.gone with
  | false =>
    refine W ?_
    exact fin ⟨_, rfl, V, rfl, .inl ⟨rfl, rfl, hgn⟩⟩
  | true =>
    refine W ?_
    refine w_dfr rfl rfl ?_
    refine W ?_
    refine clP h77 (fun v M hq => ?_) (fun v M hq => ?_)
    · obtain ⟨rfl, (⟨e, h5⟩ | ⟨e, h5⟩)⟩ := hq
      · cases e
        obtain ⟨h, b, s, l⟩ := V
        have hgn : h.r.gone = true := hgn
        cases l with
        | some x => have : h.r.gone = false := k.lo.1; rw [hgn] at this; cases this
        | none =>
          have hkk : b.k < 1099400000000 := hk
          obtain ⟨dv, hd, hdn⟩ := k.ld
          have hd : b.ds[h.r.g.m]? = some dv := hd
          have hdn : 10 + h.r.g.r ≤ dv.n := hdn
          have h14 := f14 (gb := gb) (b := b) hd
          have h122 := f122 (gh := gh) (gb := gb) (h := h)
          refine g_eq (L2 := [vtC gv gh gb gs PN, huC gh gb h, BenC gb b, ShC gs h.r.g s, pur True, glC, cl ge [I 0] 39]) rfl ?_
          refine W ?_
          refine cv h75 ?_
          refine W1 fun gg => ?_
          refine w_drawHD (N := 73) rfl (by decide +kernel) ?_
          refine W ?_
          first | refine cv h14 ?_ | refine cq h14 ?_
          refine W ?_
          cases hdd : dv.dead with
          | true =>
            have hl := (List.getElem?_eq_some_iff.1 hd).1
            have k2 := k.ins hd fun h => absurd h (Nat.lt_irrefl _)
            have hd2 : (b.ins h.r.g.m dv).ds[h.r.g.m]? = some ⟨dv.n, fun _ => blk0, false⟩ := List.getElem?_set_self hl
            refine g_dvn rfl (sel_ : Sel (BenC gb b) _ _) hd fun hsz => ?_
            have h175 := f175 (gb := gb) (b := b) hd hsz.1 hsz.2
            refine W ?_
            refine w_drawHD (N := 73) rfl (by decide +kernel) ?_
            refine W ?_
            refine cl' h175 ?_
            rintro _ _ (⟨e, _, _⟩ | ⟨_, rfl, rfl⟩)
            · rw [hdd] at e; cases e
            · refine W ?_
              refine cv f79v ?_
              refine W ?_
              have h85 := f85 (gb := gb) (b := b.ins h.r.g.m dv) (dv := (⟨dv.n, fun _ => blk0, false⟩ : Dev)) (d := h.r.g.m) (id := h.id) (ring := h.r.g.r) hd2 (by show 10 + h.r.g.r ≤ dv.n; exact hdn) (by show b.k < _; omega) k.id k.g.r40 k.g.r256
              refine w_dagD (N := 73) rfl [.q 0, .q 1, .q 2, .q 3, .q 4, .q 5, .q 6, .q 7, .q 8, .q 9, .q 10, .q 11, .q 12, .m 13 [], .q 14, .q 15, .q 16, .q 17, .m 18 []] (by decide +kernel) ?_
              refine W ?_
              refine dq h122 ?_
              refine W ?_
              refine dm fun E => ?_
              refine cl' h85 ?_
              rintro _ _ ⟨b2, hle, (⟨x, _, hdx, _⟩ | ⟨gl, rfl, _, hk12, rfl⟩)⟩
              · cases (rfl : (⟨dv.n, fun _ => blk0, false⟩ : Dev).dead = false).symm.trans hdx
              · have k3 := VK.log (gl := gl) k2 h5 hle
                have hkb : b2.k ≤ b.k + 24 := hle.k2
                have h177 := f177 (gh := gh) (gb := gb) (h := h) (gone := false) k.hb.ok
                have h88 := f88 (gh := gh) (gb := gb) (b := b2) k3.hb (by show b2.k < _; omega)
                refine W ?_
                refine cv f79v ?_
                refine W ?_
                refine cl' h177 ?_
                rintro _ _ ⟨rfl, rfl⟩
                refine W ?_
                refine cv f79v ?_
                refine W ?_
                refine cl' h88 ?_
                rintro _ _ ⟨h2, b3, rfl, rfl, hs2, hset⟩
                refine W ?_
                refine cv f79v ?_
                refine W ?_
                refine fin_dret f76r rfl Pick.nil ?_
                rintro _ rfl
                have hv4 := k3.hs hs2
                have hg2 : h2.r.g = h.r.g := hs2.re.g
                refine finE ⟨_, rfl, ⟨h2, b3, s, some (gl, fresLg h.r.g.m h.id h.r.g.r)⟩, rfl, .inr (.inr ⟨rfl, hv4.ok, ?_, hs2.id, hg2, hs2.re.gone, hgn, ?_, ?_, ?_⟩)⟩ ?_
                · have : b3.k ≤ b2.k + 600 := hs2.be.k2
                  show b3.k ≤ b.k + 10000
                  omega
                · show b3.dead h.r.g.m = false
                  rw [hs2.be.dead, hle.dead]
                  rw [ins_dead hd]; simp
                · intro i hi
                  show b3.dead i = b.dead i
                  rw [hs2.be.dead, hle.dead]
                  rw [ins_dead hd, if_neg hi]
                · intro i
                  show h2.r.st i = h.r.st i ∨ (i < h.r.g.m ∧ b.dead i = true ∧ h2.r.st i = 1)
                  rcases hs2.re.st i with e | ⟨e0, e1, e2⟩
                  · exact .inl e
                  · right
                    have e0 : i < h.r.g.m := e0
                    rw [hle.dead] at e1
                    rw [ins_dead hd, if_neg (by omega)] at e1
                    exact ⟨e0, e1, e2⟩
                · show Ent _ [_, _, _, ShC gs h2.r.g s, LogC gl gb _, _]
                  rw [hg2]; exact ent_
          | false =>
            refine W ?_
            have h85 := f85 (gb := gb) (b := b) (dv := dv) (d := h.r.g.m) (id := h.id) (ring := h.r.g.r) hd (by show 10 + h.r.g.r ≤ dv.n; exact hdn) (by show b.k < _; omega) k.id k.g.r40 k.g.r256
            refine w_dagD (N := 73) rfl [.q 0, .q 1, .q 2, .q 3, .q 4, .q 5, .q 6, .q 7, .q 8, .q 9, .q 10, .q 11, .q 12, .m 13 [], .q 14, .q 15, .q 16, .q 17, .m 18 []] (by decide +kernel) ?_
            refine W ?_
            refine dq h122 ?_
            refine W ?_
            refine dm fun E => ?_
            refine cl' h85 ?_
            rintro _ _ ⟨b2, hle, (⟨x, _, hdx, _⟩ | ⟨gl, rfl, _, hk12, rfl⟩)⟩
            · cases (hdd : dv.dead = false).symm.trans hdx
            · have k3 := VK.log (gl := gl) k h5 hle
              have hkb : b2.k ≤ b.k + 24 := hle.k2
              have h177 := f177 (gh := gh) (gb := gb) (h := h) (gone := false) k.hb.ok
              have h88 := f88 (gh := gh) (gb := gb) (b := b2) k3.hb (by show b2.k < _; omega)
              refine W ?_
              refine cv f79v ?_
              refine W ?_
              refine cl' h177 ?_
              rintro _ _ ⟨rfl, rfl⟩
              refine W ?_
              refine cv f79v ?_
              refine W ?_
              refine cl' h88 ?_
              rintro _ _ ⟨h2, b3, rfl, rfl, hs2, hset⟩
              refine W ?_
              refine cv f79v ?_
              refine W ?_
              refine fin_dret f76r rfl Pick.nil ?_
              rintro _ rfl
              have hv4 := k3.hs hs2
              have hg2 : h2.r.g = h.r.g := hs2.re.g
              refine finE ⟨_, rfl, ⟨h2, b3, s, some (gl, fresLg h.r.g.m h.id h.r.g.r)⟩, rfl, .inr (.inr ⟨rfl, hv4.ok, ?_, hs2.id, hg2, hs2.re.gone, hgn, ?_, ?_, ?_⟩)⟩ ?_
              · have : b3.k ≤ b2.k + 600 := hs2.be.k2
                show b3.k ≤ b.k + 10000
                omega
              · show b3.dead h.r.g.m = false
                rw [hs2.be.dead, hle.dead]
                rw [Ben.dead_eq hd]; exact hdd
              · intro i hi
                show b3.dead i = b.dead i
                rw [hs2.be.dead, hle.dead]
              · intro i
                show h2.r.st i = h.r.st i ∨ (i < h.r.g.m ∧ b.dead i = true ∧ h2.r.st i = 1)
                rcases hs2.re.st i with e | ⟨e0, e1, e2⟩
                · exact .inl e
                · right
                  have e0 : i < h.r.g.m := e0
                  rw [hle.dead] at e1
                  skip
                  exact ⟨e0, e1, e2⟩
              · show Ent _ [_, _, _, ShC gs h2.r.g s, LogC gl gb _, _]
                rw [hg2]; exact ent_
      · cases e
    · obtain ⟨rfl, (⟨e, h5⟩ | ⟨e, h5⟩)⟩ := hq
      · cases e
      · cases e
        refine w_pan ?_
        refine fin_dpan (f76p (gv := gv) (gh := gh) (gb := gb) (gs := gs) (ge := ge) (l := lgV V.l) (e := 16) (e0 := 0) (by decide)) rfl pick_ ?_
        rintro _ rfl
        exact fin ⟨_, rfl, V, rfl, .inr (.inl ⟨rfl, rfl, h5⟩)⟩
end
end Go.Proofs.YtnilejkfbcnkkaaGreatDoor.V
end
section
set_option maxRecDepth 100000
set_option maxHeartbeats 1000000
namespace Go.Proofs.YtnilejkfbcnkkaaGreatDoor.V
variable [GlK]
open Go Go.RowKit
attribute [local irreducible] Yields cl blk pur rowc sv exC fo cnt xorb blk0

def eWt : Enc (Nat × Blk) := ⟨fun p => I p.1 :: bl p.2, 65, fun p => by simp [bl_len], fun p v hv => by
  rcases List.mem_cons.1 hv with rfl | hv
  · rfl
  · exact bv_one p.2 v hv, by omega⟩
instance : EncV eWt (fun p => I p.1 :: bl p.2) := ⟨rfl⟩
/-- what was written, by the blocks' numbers -/
def wrs (m : List (Nat × Blk)) : List (Nat × Blk) := (srt (m.map Prod.fst)).map fun k => (k, (lkp m k).getD blk0)
section
variable {gd gm : Nat} {g : Geo} {m : List (Nat × Blk)}
theorem f92 : Ct Tryz.prog 92 [.map (some gm)] [] (fun v L => ∃ gc, v = .func (.func 143) #[] #[PP gc] ∧ L = [cl gc [.map (some gm)] 116]) := by
  refine w_ct Tryz.func92 rfl Tryz.ntmps92 rfl fun w B => ?_
  refine W1 fun gc => ?_
  exact fin ⟨_, rfl, gc, rfl, rfl⟩
theorem f50 (hm : m.length ≤ 16) (hb : ∀ p ∈ m, p.1 < 100000) : Ct Tryz.prog 50 [PP gd] [DrC gd g m] (fun v L => ∃ (a : Option Addr) (c : Nat), v = .slice a (wrs m).length c ∧ L = [DrC gd g m, sv eWt 53 (wrs m) a c]) := by
  have hlen : (srt (m.map Prod.fst)).length = m.length := by rw [srt_len, List.length_map]
  refine w_ct Tryz.func50 rfl Tryz.ntmps50 rfl fun w B => ?_
  refine g_ex rfl Sel.hd fun gm => ?_
  have h72 := f72 (gd := gd) (g := g) (gm := gm) 
  have h92 := f92 (gm := gm)
  refine W ?_
  refine cv h72 ?_
  refine W ?_
  refine cl' h92 ?_
  rintro _ _ ⟨gc, rfl, rfl⟩
  have h91 := f91 (f := fun x : Blk => BV x) (m := m) (gm := gm) (gc := gc) (by omega) (fun p hp => by have := hb p hp; omega)
  refine W ?_
  refine cl' h91 ?_
  rintro _ _ ⟨a, c, rfl, rfl⟩
  refine W ?_
  refine g_nil eWt 53 rfl ?_
  refine w_loop (γ := Nat × Option Addr × Nat) (fun ⟨j, a', c'⟩ => [(0, PP gd), (3, .slice a' j c'), (13, .slice a m.length c), (14, I m.length), (15, I j)])
    (fun ⟨j, a', c'⟩ => [cl gd (drfL g gm) 118, mpC (fun x : Blk => BV x) gm m, sv eNat 3 (srt (m.map Prod.fst)) a c, sv eWt 53 ((wrs m).take j) a' c']) (fun ⟨j, a', c'⟩ => j ≤ m.length) (fun x => m.length - x.1) (0, none, 0) sl_ ent_
    (Nat.zero_le _) fun ⟨j, a', c'⟩ B hj => ?_
  dsimp only at hj ⊢
  refine W ?_
  refine w_if rfl (fun h => ?_) (fun h => ?_)
  · have hlt : j < m.length := by omega
    have hlt2 : j < (srt (m.map Prod.fst)).length := by omega
    have hlt3 : j < (wrs m).length := by unfold wrs; rw [List.length_map]; omega
    refine w_skip ?_
    refine g_svp rfl (sel_ : Sel (sv eNat 3 _ a c) _ _) (by omega) fun ga hga => ?_
    subst hga
    refine W ?_
    refine w_y rfl rfl rfl (y_lk0 rfl rfl mem_) ?_
    rw [optB]
    refine W ?_
    trace_state
    refine w_bs1 eWt ((srt (m.map Prod.fst))[j], (lkp m (srt (m.map Prod.fst))[j]).getD blk0) rfl rfl rfl (by decide) fun gt => ?_
    refine W ?_
    refine w_ap eWt (sel_ : Sel (sv eWt 53 _ a' c') _ _) (rd_row (show rowc eWt 53 [((srt (m.map Prod.fst))[j], (lkp m (srt (m.map Prod.fst))[j]).getD blk0)] gt 1 ∈ _ from mem_)) (by simp; omega) (by simp; omega) (hn0 := by simp; omega) fun a2 c2 => ?_
    have e1 : (wrs m).take j ++ [((srt (m.map Prod.fst))[j], (lkp m (srt (m.map Prod.fst))[j]).getD blk0)] = (wrs m).take (j + 1) := by rw [List.take_succ_eq_append_getElem hlt3]; simp [wrs]
    have e2 : ((wrs m).take (j + 1)).length = j + 1 := by rw [List.length_take]; omega
    rw [e1, e2]
    refine W ?_
    exact w_land rfl (w_round (j + 1, a2, c2) (by show j + 1 ≤ m.length; omega) (by show m.length - (j + 1) < m.length - j; omega) sl_ (Ent.sel sel_ (Ent.sel sel_ (Ent.trans (Ent.sel (sel_ : Sel (rowc eNat 3 _ ga c) _ _) (.refl _)) (ent_sv ent_)))))
  · have hjj : j = m.length := by omega
    subst hjj
    have e3 : (wrs m).length = m.length := by unfold wrs; rw [List.length_map]; omega
    rw [← e3, List.take_length]
    refine W ?_
    exact finE ⟨_, rfl, a', c', rfl, rfl⟩ (ent_ex gm ent_)
end
end Go.Proofs.YtnilejkfbcnkkaaGreatDoor.V
end
