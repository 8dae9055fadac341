/- Proved: a member made anew: the small functions, the others' parity; a member's cell made anew; a step of healing; parities looked at; the conditions stand in the statements. -/
import Derived.Test.YtnilejkfbcnkkaaGreatDoorM23
set_option linter.unusedVariables false
set_option linter.unusedSimpArgs false
set_option linter.unusedSectionVars false
section
set_option maxRecDepth 100000
set_option maxHeartbeats 2000000
namespace Go.Proofs.YtnilejkfbcnkkaaGreatDoor.V
variable [GlK]
open Go Go.RowKit
attribute [local irreducible] Yields cl blk pur rowc sv exC fo cnt xorb blk0

section
variable {gv gh gb gs : Nat} {l : Value} {h : Hul} {b : Ben}
theorem f66 : CtV Tryz.prog 66 [PP gv] [vtC gv gh gb gs l] (PP gs) := by
  refine w_ct Tryz.func66 rfl Tryz.ntmps66 rfl fun w B => ?_
  refine W ?_
  exact fin ⟨_, rfl, rfl, rfl⟩
theorem f106 : CtV Tryz.prog 106 [PP gv] [vtC gv gh gb gs l] (.bool false) := by
  have h66 := f66 (gv := gv) (gh := gh) (gb := gb) (gs := gs) (l := l)
  refine w_ct Tryz.func106 rfl Tryz.ntmps106 rfl fun w B => ?_
  refine W ?_
  refine cv h66 ?_
  refine W ?_
  exact fin ⟨_, rfl, rfl, rfl⟩
theorem f109 {e : Int} (hr : RosOk h.r) (h0 : e ≠ 0) (h8 : e ≠ 8) : CtV Tryz.prog 109 [PP gv, .int .i64 e] [vtC gv gh gb gs l, huC gh gb h] (if h.r.state = 5 then I 16 else I 17) := by
  have h39 := f39 (gh := gh) (gb := gb) hr
  refine w_ct Tryz.func109 rfl Tryz.ntmps109 rfl fun w B => ?_
  refine W ?_
  rw [decide_eq_false h0]
  refine W ?_
  rw [decide_eq_false h8]
  refine W ?_
  refine cv h39 ?_
  refine W ?_
  by_cases h5 : h.r.state = 5
  · rw [decide_eq_true (show (h.r.state : Int) = 5 by omega)]
    refine W ?_
    exact fin ⟨_, rfl, by rw [if_pos h5], rfl⟩
  · rw [decide_eq_false (show ¬ (h.r.state : Int) = 5 by omega)]
    refine W ?_
    exact fin ⟨_, rfl, by rw [if_neg h5], rfl⟩
/-- what the others' reading comes to -/
def HotQ (h : Hul) (b : Ben) (n m : Nat) (h' : Hul) (b' : Ben) (v : Value) : Prop :=
  (v = T [BV (foldb ((othM h.r.g.m m).map fun j => b.rd j (2 + n))), I 0] ∧ h' = h ∧ b' = b ∧ ∀ j, j < h.r.g.m → j ≠ m → h.r.has j n = true ∧ b.dead j = false) ∨
  (HS 600 h b h' b' ∧ ((v = T [BV blk0, I 7] ∧ h'.r.state ≠ 5) ∨ (v = T [BV blk0, I 16] ∧ h'.r.state = 5)))
theorem othM_succ {j m : Nat} : othM (j + 1) m = othM j m ++ if j = m then [] else [j] := by
  unfold othM
  rw [List.range_succ, List.filter_append]
  congr 1
  by_cases e : j = m
  · subst e; simp
  · have e2 : (j : Int) ≠ (m : Int) := by omega
    simp [e2, e]
theorem f171 {n m : Nat} (hh : HB h b) (h5 : h.r.state ≠ 5) (hn : n < h.r.g.s) (hk : b.k < 1099511000000) :
    Ct Tryz.prog 171 [PP gv, I n, I m] [vtC gv gh gb gs l, huC gh gb h, BenC gb b] (fun v L => ∃ h' b', L = [vtC gv gh gb gs l, huC gh gb h', BenC gb b'] ∧ HotQ h b n m h' b' v) := by
  have hg := hh.ok.ge
  have hm3 := hg.m3
  have hm16 := hg.m16
  have h41 := f41 (gh := gh) (gb := gb) (h := h)
  refine w_ct Tryz.func171 rfl Tryz.ntmps171 rfl fun w B => ?_
  refine W1 fun g6 => ?_
  refine cv h41 ?_
  refine W ?_
  refine w_y rfl rfl rfl (y_fN (vs := geL h.r.g) rfl sg_) ?_
  refine W ?_
  refine g_nil eBlk 51 rfl ?_
  refine w_loop (γ := Nat × Option Addr × Nat) (fun ⟨j, a, c⟩ => [(0, PP gv), (1, I n), (2, I m), (6, PP g6), (8, .slice a (othM j m).length c), (18, I h.r.g.m), (19, I j)])
    (fun ⟨j, a, c⟩ => [vtC gv gh gb gs l, huC gh gb h, BenC gb b, cl g6 (bl blk0) 51, sv eBlk 51 ((othM j m).map fun i => b.rd i (2 + n)) a c]) (fun ⟨j, a, c⟩ => j ≤ h.r.g.m ∧ ∀ i, i < j → i ≠ m → h.r.has i n = true ∧ b.dead i = false) (fun x => h.r.g.m - x.1) (0, none, 0) sl_ ent_
    ⟨Nat.zero_le _, fun i h => absurd h (Nat.not_lt_zero _)⟩ fun ⟨j, a, c⟩ B ⟨hj, hall⟩ => ?_
  dsimp only at hj hall ⊢
  have hol : (othM j m).length ≤ j := by
    unfold othM
    have := List.length_filter_le (fun i : Nat => decide ((i : Int) ≠ (m : Int))) (List.range j)
    rwa [List.length_range] at this
  refine W ?_
  refine w_if rfl (fun h' => ?_) (fun h' => ?_)
  · have hlt : j < h.r.g.m := by omega
    refine W ?_
    by_cases e : j = m
    · rw [decide_eq_true (show ((j : Nat) : Int) = m by omega)]
      have e1 : othM (j + 1) m = othM j m := by rw [othM_succ, if_pos e, List.append_nil]
      rw [← e1]
      refine W ?_
      exact w_land rfl (w_round (j + 1, a, c) ⟨hlt, fun i hi hne => hall i (by omega) hne⟩ (by show h.r.g.m - (j + 1) < h.r.g.m - j; omega) sl_ ent_)
    · rw [decide_eq_false (show ¬ ((j : Nat) : Int) = m by omega)]
      have h180 := f180 (gh := gh) (gb := gb) (n := n) (m := j) hh hn hlt (by omega)
      refine W ?_
      refine cl' h180 ?_
      rintro v _ ⟨h2, b2, rfl, hs, (⟨rfl, rfl, rfl, _, hhas, hal⟩ | ⟨rfl, h6, _⟩ | ⟨rfl, h6⟩)⟩
      · refine W1 fun g10 => ?_
        refine w_bs1 eBlk (b2.rd j (2 + n)) rfl rfl rfl (by decide) fun gt => ?_
        refine W ?_
        refine w_ap eBlk (sel_ : Sel (sv eBlk 51 _ a c) _ _) (rd_row (show rowc eBlk 51 [b2.rd j (2 + n)] gt 1 ∈ _ from mem_)) (by simp; omega) (by simp; omega) (hn0 := by simp) fun a2 c2 => ?_
        have e1 : (othM j m).map (fun i => b2.rd i (2 + n)) ++ [b2.rd j (2 + n)] = (othM (j + 1) m).map fun i => b2.rd i (2 + n) := by rw [othM_succ, if_neg e, List.map_append]; rfl
        have e2 : ((othM (j + 1) m).map fun i => b2.rd i (2 + n)).length = (othM (j + 1) m).length := List.length_map _
        rw [e1, e2]
        refine W ?_
        exact w_land rfl (w_round (j + 1, a2, c2) ⟨hlt, fun i hi hne => by by_cases c : i = j; (· subst c; exact ⟨hhas, hal⟩); (· exact hall i (by omega) hne)⟩ (by show h2.r.g.m - (j + 1) < h2.r.g.m - j; omega) sl_ ent_)
      · refine W1 fun g10 => ?_
        exact fin ⟨_, rfl, h2, b2, rfl, .inr ⟨hs, .inl ⟨rfl, h6⟩⟩⟩
      · refine W1 fun g10 => ?_
        exact fin ⟨_, rfl, h2, b2, rfl, .inr ⟨hs, .inr ⟨rfl, h6⟩⟩⟩
  · have hjj : j = h.r.g.m := by omega
    subst hjj
    have h170 := f170 (a := a) (c := c) (l := (othM h.r.g.m m).map fun i => b.rd i (2 + n))
    rw [List.length_map] at h170
    refine W ?_
    refine cv h170 ?_
    refine W ?_
    exact fin ⟨_, rfl, h, b, rfl, .inl ⟨rfl, rfl, rfl, hall⟩⟩
end
end Go.Proofs.YtnilejkfbcnkkaaGreatDoor.V
end
section
set_option maxRecDepth 100000
set_option maxHeartbeats 2000000
namespace Go.Proofs.YtnilejkfbcnkkaaGreatDoor.V
variable [GlK]
open Go Go.RowKit
attribute [local irreducible] Yields cl blk pur rowc sv exC fo cnt xorb blk0

theorem SB.of {C B : Nat → Nat → Blk} {h : Hul} {b : Ben} {s : Shf} (bx : CX B h.r.g) (dk : ∀ n m, n < h.r.g.s → m < h.r.g.m → h.r.has m n = true → b.dead m = false → b.rd m (2 + n) = B n m)
    (kn : ∀ n m, m < h.r.g.m → (s.F n).kn m = true → (s.F n).bs m = C n m) (cl : ∀ n m, n < h.r.g.s → m < h.r.g.m → (s.F n).dr m = false → C n m = B n m ∨ (m = h.r.g.par n ∧ h.r.has m n = false)) : ∃ B', SB C B' h b s := by
  refine ⟨fun n m => if n < h.r.g.s then B n m else b.rd m (2 + n), fun n hn => ?_, fun n m hm hh hd => ?_, kn, fun n m hn hm hd => ?_⟩
  · have := bx n hn
    simpa [hn] using this
  · by_cases hn : n < h.r.g.s
    · simp only [hn, if_true]; exact dk n m hn hm hh hd
    · simp only [hn, if_false]
  · simp only [hn, if_true]; exact cl n m hn hm hd
/-- members may be lost, or whole again; the log may be gone -/
structure HV (V V' : Vlt) : Prop where
  id : V'.h.id = V.h.id
  g : V'.h.r.g = V.h.r.g
  d : V'.b.dead = V.b.dead
  st : ∀ j, V'.h.r.st j = V.h.r.st j ∨ (j < V.h.r.g.m ∧ V.b.dead j = true ∧ V'.h.r.st j = 1) ∨ (V.h.r.st j = 2 ∧ V'.h.r.st j = 0)
  gone : V'.h.r.gone = V.h.r.gone ∨ (V'.h.r.gone = true ∧ V.b.dead V.h.r.g.m = true)
theorem MV.hv {V V' : Vlt} (m : MV V V') : HV V V' := ⟨m.id, m.g, m.d, fun j => (m.st j).imp (fun h => h) .inl, m.gone⟩
theorem HV.trans {V V' V'' : Vlt} (p : HV V V') (q : HV V' V'') : HV V V'' := by
  refine ⟨q.id.trans p.id, q.g.trans p.g, q.d.trans p.d, fun j => ?_, ?_⟩
  · rcases q.st j with e | ⟨e1, e2, e3⟩ | ⟨e1, e2⟩
    · rcases p.st j with f | ⟨f1, f2, f3⟩ | ⟨f1, f2⟩
      · exact .inl (e.trans f)
      · exact .inr (.inl ⟨f1, f2, e.trans f3⟩)
      · exact .inr (.inr ⟨f1, e.trans f2⟩)
    · exact .inr (.inl ⟨by rw [← p.g]; exact e1, by rw [← p.d]; exact e2, e3⟩)
    · rcases p.st j with f | ⟨f1, f2, f3⟩ | ⟨f1, f2⟩
      · exact .inr (.inr ⟨f.symm.trans e1, e2⟩)
      · rw [f3] at e1; cases e1
      · rw [f2] at e1; cases e1
  · rcases q.gone with e | ⟨e1, e2⟩
    · rcases p.gone with f | ⟨f1, f2⟩
      · exact .inl (e.trans f)
      · exact .inr ⟨e.trans f1, f2⟩
    · exact .inr ⟨e1, by rw [← p.g, ← p.d]; exact e2⟩
section
variable {C : Nat → Nat → Blk} {h : Hul} {b : Ben} {s : Shf} {l : Option (Nat × Lg)}
theorem VK.fill {B : Nat → Nat → Blk} (k : VK C ⟨h, b, s, l⟩) (h5 : h.r.state ≠ 5) (sb : SB C B h b s) (hBC : ∀ m, B h.r.cur m = C h.r.cur m) {m : Nat} {dv : Dev} {x : Blk} (hm : m < h.r.g.m) (h2 : h.r.st m = 2) (hd : b.ds[m]? = some dv) (hx : x = B h.r.cur m) :
    VK C ⟨{ h with r := h.r.next m }, ⟨b.ds.set m (dv.set (2 + h.r.cur) x), b.k + 1⟩, s, l⟩ ∧ HV ⟨h, b, s, l⟩ ⟨{ h with r := h.r.next m }, ⟨b.ds.set m (dv.set (2 + h.r.cur) x), b.k + 1⟩, s, l⟩ := by
  have hm16 := k.g.m16
  have hm16 : h.r.g.m ≤ 16 := hm16
  have hro := k.hb.ok
  have hro : RosOk h.r := hro
  have hg : (h.r.next m).g = h.r.g := by unfold Ros.next; split <;> rfl
  have hgo : (h.r.next m).gone = h.r.gone := by unfold Ros.next; split <;> rfl
  have hst : ∀ j, (h.r.next m).st j = h.r.st j ∨ (h.r.st j = 2 ∧ (h.r.next m).st j = 0) := by
    intro j
    unfold Ros.next
    split
    · show (if j = m then 0 else h.r.st j) = _ ∨ (_ ∧ (if j = m then 0 else h.r.st j) = 0)
      by_cases e : j = m
      · subst e; right; exact ⟨h2, by simp⟩
      · left; rw [if_neg e]
    · exact .inl rfl
  have hhas : ∀ j n, j < h.r.g.m → n < h.r.g.s → (h.r.next m).has j n = true → (h.r.has j n = true ∨ (j = m ∧ n = h.r.cur)) := by
    intro j n hj hn hh
    by_cases e : j = m
    · subst e
      by_cases en : n = h.r.cur
      · exact .inr ⟨rfl, en⟩
      · left
        unfold Ros.has Ros.next at *
        split at hh
        · have : n < h.r.cur := by omega
          simp [h2, this]
        · simp [h2] at hh ⊢
          omega
    · left
      have hj2 : h.r.st j ≠ 2 := fun e2 => e (hro.one2 hm hj h2 e2)
      unfold Ros.has Ros.next at *
      split at hh
      · have hh : (decide ((if j = m then 0 else h.r.st j) = 0) || (decide ((if j = m then 0 else h.r.st j) = 2) && decide (n < 0))) = true := hh
        rw [if_neg e] at hh
        simp at hh
        simp [hh]
      · simp [hj2] at hh ⊢
        exact hh
  have hle : ∀ j n, h.r.has j n = true → j < h.r.g.m → n < h.r.g.s → (h.r.next m).has j n = true := by
    intro j n hh hj hn
    by_cases e : j = m
    · subst e
      unfold Ros.has at hh
      simp [h2] at hh
      unfold Ros.has Ros.next
      split
      · simp [Ros.set]
      · simp [h2]; omega
    · have hj2 : h.r.st j ≠ 2 := fun e2 => e (hro.one2 hm hj h2 e2)
      unfold Ros.has at hh
      simp [hj2] at hh
      rcases hst j with f | ⟨f, _⟩
      · unfold Ros.has; rw [f, hh]; simp
      · exact absurd f hj2
  have h5e : (h.r.next m).state = 5 → h.r.state = 5 := state5_up (r := h.r.next m) (r' := h.r) (fun j _ e => by
    rcases hst j with f | ⟨f, _⟩
    · rw [f]; exact e
    · omega) (fun e => by rw [← hgo]; exact e)
  have hhb := k.hb.set (i := 2 + h.r.cur) (k := b.k + 1) (x := x) hm hd
  have hbd : (⟨b.ds.set m (dv.set (2 + h.r.cur) x), b.k + 1⟩ : Ben).dead = b.dead := set_dead hd
  refine ⟨⟨⟨⟨hro.next hm h2, ?_, ?_⟩, k.id, ?_, ?_, ?_, fun h6 => ?_⟩, fun hl h6 => k.ne hl fun e => h5 e⟩, ⟨rfl, hg, hbd, fun j => (hst j).imp (fun h => h) .inr, .inl hgo⟩⟩
  · show _ = (h.r.next m).g.m + 1
    rw [hg]; exact hhb.len
  · intro j x' hj hx'
    have hj : j < (h.r.next m).g.m := hj
    show 2 + (h.r.next m).g.s ≤ _
    rw [hg] at hj ⊢
    exact hhb.n j x' hj hx'
  · obtain ⟨y, h1, h3⟩ := k.ld
    show ∃ dv', (b.ds.set m (dv.set (2 + h.r.cur) x))[(h.r.next m).g.m]? = some dv' ∧ 10 + (h.r.next m).g.r ≤ dv'.n
    rw [hg, List.getElem?_set_ne (by omega)]
    exact ⟨y, h1, h3⟩
  · exact k.lo.up hg hgo (by show b.k ≤ b.k + 1; omega)
  · show CX C (h.r.next m).g
    rw [hg]; exact k.cx
  · obtain ⟨sk, _⟩ := k.sk h5
    refine ⟨by show SK (h.r.next m).g s l; rw [hg]; exact sk, SB.of (B := B) (by show CX B (h.r.next m).g; rw [hg]; exact sb.bx) (fun n j hn hj hh hdd => ?_) (by show ∀ n m', m' < (h.r.next m).g.m → _; rw [hg]; exact sb.kn) (fun n j hn hj hdr => ?_)⟩
    · have hn : n < (h.r.next m).g.s := hn
      have hj : j < (h.r.next m).g.m := hj
      rw [hg] at hn hj
      have hdd : (⟨b.ds.set m (dv.set (2 + h.r.cur) x), b.k + 1⟩ : Ben).dead j = false := hdd
      rw [hbd] at hdd
      show (⟨b.ds.set m (dv.set (2 + h.r.cur) x), b.k + 1⟩ : Ben).rd j (2 + n) = _
      rw [set_rd hd]
      by_cases c : j = m ∧ 2 + n = 2 + h.r.cur
      · rw [if_pos c, hx]
        have : n = h.r.cur := by omega
        rw [this, c.1]
      · rw [if_neg c]
        rcases hhas j n hj hn hh with e | ⟨e1, e2⟩
        · exact sb.dk n j hj e hdd
        · exact absurd ⟨e1, by omega⟩ c
    · have hn : n < (h.r.next m).g.s := hn
      have hj : j < (h.r.next m).g.m := hj
      rw [hg] at hn hj
      by_cases hnc : n = h.r.cur
      · left; rw [hnc]; exact (hBC j).symm
      · rcases sb.cl n j hn hj hdr with e | ⟨e1, e2⟩
        · exact .inl e
        · right
          refine ⟨by show j = (h.r.next m).g.par n; rw [hg]; exact e1, ?_⟩
          show (h.r.next m).has j n = false
          cases e : (h.r.next m).has j n with
          | false => rfl
          | true =>
            rcases hhas j n hj hn e with f | ⟨_, f⟩
            · rw [f] at e2; cases e2
            · exact absurd f hnc
end
/-- what an asking comes to that may be refused -/
def RfQ (C : Nat → Nat → Blk) (c : Nat) (V V' : Vlt) (e : Int) : Prop := HV V V' ∧ VK C V' ∧ V'.b.k ≤ V.b.k + c ∧ (e = 16 → V'.h.r.state = 5)
end Go.Proofs.YtnilejkfbcnkkaaGreatDoor.V
end
section
set_option maxRecDepth 100000
set_option maxHeartbeats 2000000
namespace Go.Proofs.YtnilejkfbcnkkaaGreatDoor.V
variable [GlK]
open Go Go.RowKit
attribute [local irreducible] Yields cl blk pur rowc sv exC fo cnt xorb blk0

section
variable {gv gh gb gs : Nat} {C : Nat → Nat → Blk} {V : Vlt}
theorem f108 {m : Nat} (k : VK C V) (h5 : V.h.r.state ≠ 5) (hk : V.b.k < 1099400000000) (hm : m < V.h.r.g.m) (h2 : V.h.r.st m = 2) :
    Ct Tryz.prog 108 [PP gv, I m] (VtM gv gh gb gs V) (fun v L => ∃ (V' : Vlt) (e : Int), v = .int .i64 e ∧ L = VtM gv gh gb gs V' ∧ RfQ C 20000 V V' e ∧ (e = 0 ∨ e = 7 ∨ e = 16 ∨ e = 17) ∧ (e = 0 → V'.h.r.state ≠ 5)) := by
  have hg := k.g
  have hm16 := hg.m16
  have h41 := f41 (gh := gh) (gb := gb) (h := V.h)
  have hcur := k.hb.ok.cur
  have h57 := f57 (gv := gv) (gh := gh) (gb := gb) (gs := gs) (n := V.h.r.cur) k hcur hk
  refine w_ct Tryz.func108 rfl Tryz.ntmps108 rfl fun w B => ?_
  refine W ?_
  refine cv h41 ?_
  refine W ?_
  refine cl' h57 ?_
  rintro v _ ⟨V1, rfl, ⟨hv1, (⟨rfl, h6⟩ | ⟨rfl, h6⟩)⟩, hl1, hB⟩
  · obtain ⟨B, sb, hBC⟩ := hB rfl
    have hg1 : V1.h.r.g = V.h.r.g := hv1.mv.g
    have hk1 := hv1.k
    have h171 := f171 (gv := gv) (gh := gh) (gb := gb) (gs := gs) (l := lgV V1.l) (h := V1.h) (b := V1.b) (n := V.h.r.cur) (m := m) hv1.ok.hb h6 (by rw [hg1]; exact hcur) (by omega)
    refine W ?_
    refine cl' h171 ?_
    rintro v _ ⟨h3, b3, rfl, (⟨rfl, rfl, rfl, hall⟩ | ⟨hs, (⟨rfl, h7⟩ | ⟨rfl, h7⟩)⟩)⟩
    · have hx : foldb ((othM V1.h.r.g.m m).map fun j => V1.b.rd j (2 + V.h.r.cur)) = B V.h.r.cur m := by
        have : ((othM V1.h.r.g.m m).map fun j => V1.b.rd j (2 + V.h.r.cur)) = (othM V1.h.r.g.m m).map (B V.h.r.cur) := by
          refine List.map_congr_left fun j hj => ?_
          unfold othM at hj
          obtain ⟨q1, q2⟩ := List.mem_filter.1 hj
          have q1 := List.mem_range.1 q1
          have q2 : j ≠ m := by have := of_decide_eq_true q2; omega
          obtain ⟨q3, q4⟩ := hall j q1 q2
          exact sb.dk _ j q1 q3 q4
        rw [this]
        exact foldb_oth (by rw [hg1]; exact hm) (sb.bx _ (by rw [hg1]; exact hcur))
      have h172 := f172 (gh := gh) (gb := gb) (x := foldb ((othM V1.h.r.g.m m).map fun j => V1.b.rd j (2 + V.h.r.cur))) hv1.ok.hb (by omega)
      refine W1 fun g7 => ?_
      refine cl' h172 ?_
      rintro v _ ⟨h4, b4, rfl, (⟨rfl, _, m', dv, hm', hst', hal, hd, rfl, rfl⟩ | ⟨rfl, rfl, rfl, _⟩ | ⟨rfl, hs, h7, _⟩ | ⟨rfl, hs, h7⟩)⟩
      · have hsm : V1.h.r.st m' = V.h.r.st m' := by
          rcases hv1.mv.st m' with e | ⟨_, _, e⟩
          · exact e
          · rw [e] at hst'; cases hst'
        have hmm : m' = m := k.hb.ok.one2 hm (by rw [← hg1]; exact hm') h2 (hsm ▸ hst')
        subst hmm
        have hc1 : V1.h.r.cur = V.h.r.cur := by
          rcases hv1.mv.cur with e | e
          · exact e
          · exact absurd hst' (e m' (by omega))
        obtain ⟨kf, hvf⟩ := VK.fill (h := V1.h) (b := V1.b) (s := V1.s) (l := V1.l) (B := B) (x := foldb ((othM V1.h.r.g.m m').map fun j => V1.b.rd j (2 + V.h.r.cur))) hv1.ok h6 sb (by rw [hc1]; exact hBC) hm' hst' hd (by rw [hc1]; exact hx)
        have hge : (V1.h.r.next m').g = V1.h.r.g := by unfold Ros.next; split <;> rfl
        refine W ?_
        refine finE ⟨_, rfl, _, 0, rfl, rfl, ⟨hv1.mv.hv.trans hvf, kf, ?_, fun e => by cases e⟩, .inl rfl, fun _ => ?_⟩ ?_
        · show V1.b.k + 1 ≤ _; omega
        · show (V1.h.r.next m').state ≠ 5
          intro e
          refine h6 (state5_up (r := V1.h.r.next m') (r' := V1.h.r) (fun j _ e => ?_) (fun e => ?_) e)
          · unfold Ros.next
            split
            · show (if j = m' then 0 else V1.h.r.st j) = 0
              split
              · rfl
              · exact e
            · exact e
          · have : (V1.h.r.next m').gone = V1.h.r.gone := by unfold Ros.next; split <;> rfl
            rw [← this]; exact e
        · show Ent _ [_, huC gh gb { V1.h with r := V1.h.r.next m' }, _, ShC gs (V1.h.r.next m').g V1.s, _, _]
          rw [hge]; exact ent_
      · refine W ?_
        exact fin ⟨_, rfl, V1, 17, rfl, rfl, ⟨hv1.mv.hv, hv1.ok, by omega, fun e => by cases e⟩, .inr (.inr (.inr rfl)), fun e => by cases e⟩
      · have hv2 := hv1.trans (hv1.ok.hs hs)
        have hk2 := hv2.k
        refine W ?_
        refine finE ⟨_, rfl, ⟨h4, b4, V1.s, V1.l⟩, 7, rfl, rfl, ⟨hv2.mv.hv, hv2.ok, by omega, fun e => by cases e⟩, .inr (.inl rfl), fun e => by cases e⟩ ?_
        show Ent _ [_, _, _, ShC gs h4.r.g V1.s, _, _]
        rw [hs.re.g]; exact ent_
      · have hv2 := hv1.trans (hv1.ok.hs hs)
        have hk2 := hv2.k
        refine W ?_
        refine finE ⟨_, rfl, ⟨h4, b4, V1.s, V1.l⟩, 16, rfl, rfl, ⟨hv2.mv.hv, hv2.ok, by omega, fun _ => h7⟩, .inr (.inr (.inl rfl)), fun e => by cases e⟩ ?_
        show Ent _ [_, _, _, ShC gs h4.r.g V1.s, _, _]
        rw [hs.re.g]; exact ent_
    · have hv2 := hv1.trans (hv1.ok.hs hs)
      have hk2 := hv2.k
      refine W1 fun g7 => ?_
      refine finE ⟨_, rfl, ⟨h3, b3, V1.s, V1.l⟩, 7, rfl, rfl, ⟨hv2.mv.hv, hv2.ok, by omega, fun e => by cases e⟩, .inr (.inl rfl), fun e => by cases e⟩ ?_
      show Ent _ [_, _, _, ShC gs h3.r.g V1.s, _, _]
      rw [hs.re.g]; exact ent_
    · have hv2 := hv1.trans (hv1.ok.hs hs)
      have hk2 := hv2.k
      refine W1 fun g7 => ?_
      refine finE ⟨_, rfl, ⟨h3, b3, V1.s, V1.l⟩, 16, rfl, rfl, ⟨hv2.mv.hv, hv2.ok, by omega, fun _ => h7⟩, .inr (.inr (.inl rfl)), fun e => by cases e⟩ ?_
      show Ent _ [_, _, _, ShC gs h3.r.g V1.s, _, _]
      rw [hs.re.g]; exact ent_
  · have hk1 := hv1.k
    refine W ?_
    exact fin ⟨_, rfl, V1, 16, rfl, rfl, ⟨hv1.mv.hv, hv1.ok, by omega, fun _ => h6⟩, .inr (.inr (.inl rfl)), fun e => by cases e⟩
/-- what a step comes to -/
def StpQ (C : Nat → Nat → Blk) (V V' : Vlt) (v : Value) : Prop := ∃ (w : Bool) (e : Int), v = T [.bool w, .int .i64 e] ∧ RfQ C 30000000 V V' e ∧ (e = 0 ∨ e = 16 ∨ e = 17)
theorem f60 (k : VK C V) (hk : V.b.k < 1099300000000) : Ct Tryz.prog 60 [PP gv] (VtM gv gh gb gs V) (fun v L => ∃ V' : Vlt, L = VtM gv gh gb gs V' ∧ StpQ C V V' v) := by
  have hg := k.g
  have h106 := f106 (gv := gv) (gh := gh) (gb := gb) (gs := gs) (l := lgV V.l)
  have h39 := f39 (gh := gh) (gb := gb) k.hb.ok
  have h41 := f41 (gh := gh) (gb := gb) (h := V.h)
  have h107 := f107 k.hb.ok
  refine w_ct Tryz.func60 rfl Tryz.ntmps60 rfl fun w B => ?_
  refine W ?_
  refine cv h106 ?_
  refine W ?_
  refine cv h39 ?_
  refine W ?_
  by_cases h5 : V.h.r.state = 5
  · rw [decide_eq_true (show (V.h.r.state : Int) = 5 by omega)]
    refine W ?_
    exact fin ⟨_, rfl, V, rfl, false, 16, rfl, ⟨MV.refl.hv, k, by omega, fun _ => h5⟩, .inr (.inl rfl)⟩
  · rw [decide_eq_false (show ¬ (V.h.r.state : Int) = 5 by omega)]
    refine W ?_
    refine cv h41 ?_
    refine W ?_
    refine cl' h107 ?_
    rintro _ _ ⟨⟨m, bb, rfl, hbb, hbm⟩, rfl⟩
    refine W ?_
    cases bb with
    | false =>
      refine W ?_
      exact fin ⟨_, rfl, V, rfl, false, 17, rfl, ⟨MV.refl.hv, k, by omega, fun e => by cases e⟩, .inr (.inr rfl)⟩
    | true =>
      obtain ⟨hm, h2⟩ := hbm rfl
      have h108 := f108 (gv := gv) (gh := gh) (gb := gb) (gs := gs) k h5 (by omega) hm h2
      refine W ?_
      refine cl' h108 ?_
      rintro _ _ ⟨V1, e, rfl, rfl, ⟨hh1, k1, hk1, he16⟩, hor, he0⟩
      refine W ?_
      by_cases e0 : e = 0
      · subst e0
        have h51 := he0 rfl
        have h41b := f41 (gh := gh) (gb := gb) (h := V1.h)
        have h107b := f107 k1.hb.ok
        have hcb := k1.hb.ok.cur
        have hsb := k1.g.s64
        refine W ?_
        refine cv h41b ?_
        refine W1 fun g7 => ?_
        refine cl' h107b ?_
        rintro _ _ ⟨⟨m1, bb1, rfl, hbb1, hbm1⟩, rfl⟩
        refine W ?_
        cases bb1 with
        | true =>
          refine W ?_
          refine w_if rfl (fun hr => ?_) (fun hr => ?_)
          · refine W ?_
            exact fin ⟨_, rfl, V1, rfl, false, 0, rfl, ⟨hh1, k1, by omega, fun e => by cases e⟩, .inl rfl⟩
          · refine w_skip ?_
            have h56 := f56 (gv := gv) (gh := gh) (gb := gb) (gs := gs) k1 (by omega)
            refine W ?_
            refine cl' h56 ?_
            rintro v _ ⟨V2, rfl, hv2, (⟨rfl, h6⟩ | ⟨rfl, h6⟩)⟩
            · have hk2 := hv2.k
              have h88 := f88 (gh := gh) (gb := gb) (h := V2.h) (b := V2.b) hv2.ok.hb (by omega)
              refine W ?_
              refine cl' h88 ?_
              rintro _ _ ⟨h3, b3, rfl, rfl, hs, hset⟩
              have hv3 := hv2.trans (hv2.ok.hs hs)
              have hk3 := hv3.k
              have hk3 : b3.k ≤ V1.b.k + (20000000 + 600) := hk3
              have hh3 := hh1.trans hv3.mv.hv
              have hg3 : h3.r.g = V2.h.r.g := hs.re.g
              have h41c := f41 (gh := gh) (gb := gb) (h := h3)
              have h107c := f107 hv3.ok.hb.ok
              have h39c := f39 (gh := gh) (gb := gb) (h := h3) hv3.ok.hb.ok
              have h110c := f110 (r := h3.r) hv3.ok.hb.ok
              refine W ?_
              refine cv h41c ?_
              refine W ?_
              refine cl' h107c ?_
              rintro _ _ ⟨⟨m3, bb3, rfl, hbb3, hbm3⟩, rfl⟩
              refine W ?_
              refine cv h39c ?_
              refine W ?_
              by_cases h7 : h3.r.state = 5
              · rw [decide_eq_true (show (h3.r.state : Int) = 5 by omega)]
                refine W ?_
                refine finE ⟨_, rfl, ⟨h3, b3, V2.s, V2.l⟩, rfl, false, 16, rfl, ⟨hh3, hv3.ok, by show b3.k ≤ _; omega, fun _ => h7⟩, .inr (.inl rfl)⟩ ?_
                show Ent _ [_, _, _, ShC gs h3.r.g V2.s, _, _]
                rw [hg3]; exact ent_
              · rw [decide_eq_false (show ¬ (h3.r.state : Int) = 5 by omega)]
                cases bb3 with
                | true =>
                  refine W ?_
                  refine finE ⟨_, rfl, ⟨h3, b3, V2.s, V2.l⟩, rfl, false, 0, rfl, ⟨hh3, hv3.ok, by show b3.k ≤ _; omega, fun e => by cases e⟩, .inl rfl⟩ ?_
                  show Ent _ [_, _, _, ShC gs h3.r.g V2.s, _, _]
                  rw [hg3]; exact ent_
                | false =>
                  refine W ?_
                  refine cv h41c ?_
                  refine W ?_
                  refine cv h110c ?_
                  refine W ?_
                  by_cases h8 : 0 < h3.r.missing
                  · rw [decide_eq_true (show (0 : Int) < h3.r.missing by omega)]
                    refine W ?_
                    refine finE ⟨_, rfl, ⟨h3, b3, V2.s, V2.l⟩, rfl, false, 17, rfl, ⟨hh3, hv3.ok, by show b3.k ≤ _; omega, fun e => by cases e⟩, .inr (.inr rfl)⟩ ?_
                    show Ent _ [_, _, _, ShC gs h3.r.g V2.s, _, _]
                    rw [hg3]; exact ent_
                  · rw [decide_eq_false (show ¬ (0 : Int) < h3.r.missing by omega)]
                    refine W ?_
                    refine finE ⟨_, rfl, ⟨h3, b3, V2.s, V2.l⟩, rfl, true, 0, rfl, ⟨hh3, hv3.ok, by show b3.k ≤ _; omega, fun e => by cases e⟩, .inl rfl⟩ ?_
                    show Ent _ [_, _, _, ShC gs h3.r.g V2.s, _, _]
                    rw [hg3]; exact ent_
            · have h109 := f109 (gv := gv) (gh := gh) (gb := gb) (gs := gs) (l := lgV V2.l) (h := V2.h) (e := 16) hv2.ok.hb.ok (by decide) (by decide)
              rw [if_pos h6] at h109
              have hk2 := hv2.k
              refine W ?_
              refine cv h109 ?_
              refine W ?_
              exact fin ⟨_, rfl, V2, rfl, false, 16, rfl, ⟨hh1.trans hv2.mv.hv, hv2.ok, by omega, fun _ => h6⟩, .inr (.inl rfl)⟩
        | false =>
          have h56 := f56 (gv := gv) (gh := gh) (gb := gb) (gs := gs) k1 (by omega)
          refine W ?_
          refine cl' h56 ?_
          rintro v _ ⟨V2, rfl, hv2, (⟨rfl, h6⟩ | ⟨rfl, h6⟩)⟩
          · have hk2 := hv2.k
            have h88 := f88 (gh := gh) (gb := gb) (h := V2.h) (b := V2.b) hv2.ok.hb (by omega)
            refine W ?_
            refine cl' h88 ?_
            rintro _ _ ⟨h3, b3, rfl, rfl, hs, hset⟩
            have hv3 := hv2.trans (hv2.ok.hs hs)
            have hk3 := hv3.k
            have hk3 : b3.k ≤ V1.b.k + (20000000 + 600) := hk3
            have hh3 := hh1.trans hv3.mv.hv
            have hg3 : h3.r.g = V2.h.r.g := hs.re.g
            have h41c := f41 (gh := gh) (gb := gb) (h := h3)
            have h107c := f107 hv3.ok.hb.ok
            have h39c := f39 (gh := gh) (gb := gb) (h := h3) hv3.ok.hb.ok
            have h110c := f110 (r := h3.r) hv3.ok.hb.ok
            refine W ?_
            refine cv h41c ?_
            refine W ?_
            refine cl' h107c ?_
            rintro _ _ ⟨⟨m3, bb3, rfl, hbb3, hbm3⟩, rfl⟩
            refine W ?_
            refine cv h39c ?_
            refine W ?_
            by_cases h7 : h3.r.state = 5
            · rw [decide_eq_true (show (h3.r.state : Int) = 5 by omega)]
              refine W ?_
              refine finE ⟨_, rfl, ⟨h3, b3, V2.s, V2.l⟩, rfl, false, 16, rfl, ⟨hh3, hv3.ok, by show b3.k ≤ _; omega, fun _ => h7⟩, .inr (.inl rfl)⟩ ?_
              show Ent _ [_, _, _, ShC gs h3.r.g V2.s, _, _]
              rw [hg3]; exact ent_
            · rw [decide_eq_false (show ¬ (h3.r.state : Int) = 5 by omega)]
              cases bb3 with
              | true =>
                refine W ?_
                refine finE ⟨_, rfl, ⟨h3, b3, V2.s, V2.l⟩, rfl, false, 0, rfl, ⟨hh3, hv3.ok, by show b3.k ≤ _; omega, fun e => by cases e⟩, .inl rfl⟩ ?_
                show Ent _ [_, _, _, ShC gs h3.r.g V2.s, _, _]
                rw [hg3]; exact ent_
              | false =>
                refine W ?_
                refine cv h41c ?_
                refine W ?_
                refine cv h110c ?_
                refine W ?_
                by_cases h8 : 0 < h3.r.missing
                · rw [decide_eq_true (show (0 : Int) < h3.r.missing by omega)]
                  refine W ?_
                  refine finE ⟨_, rfl, ⟨h3, b3, V2.s, V2.l⟩, rfl, false, 17, rfl, ⟨hh3, hv3.ok, by show b3.k ≤ _; omega, fun e => by cases e⟩, .inr (.inr rfl)⟩ ?_
                  show Ent _ [_, _, _, ShC gs h3.r.g V2.s, _, _]
                  rw [hg3]; exact ent_
                · rw [decide_eq_false (show ¬ (0 : Int) < h3.r.missing by omega)]
                  refine W ?_
                  refine finE ⟨_, rfl, ⟨h3, b3, V2.s, V2.l⟩, rfl, true, 0, rfl, ⟨hh3, hv3.ok, by show b3.k ≤ _; omega, fun e => by cases e⟩, .inl rfl⟩ ?_
                  show Ent _ [_, _, _, ShC gs h3.r.g V2.s, _, _]
                  rw [hg3]; exact ent_
          · have h109 := f109 (gv := gv) (gh := gh) (gb := gb) (gs := gs) (l := lgV V2.l) (h := V2.h) (e := 16) hv2.ok.hb.ok (by decide) (by decide)
            rw [if_pos h6] at h109
            have hk2 := hv2.k
            refine W ?_
            refine cv h109 ?_
            refine W ?_
            exact fin ⟨_, rfl, V2, rfl, false, 16, rfl, ⟨hh1.trans hv2.mv.hv, hv2.ok, by omega, fun _ => h6⟩, .inr (.inl rfl)⟩
      · rw [decide_eq_true e0]
        have h109 := f109 (gv := gv) (gh := gh) (gb := gb) (gs := gs) (l := lgV V1.l) (h := V1.h) (e := e) k1.hb.ok e0 (by rintro rfl; rcases hor with h | h | h | h <;> cases h)
        refine W ?_
        by_cases h51 : V1.h.r.state = 5
        · rw [if_pos h51] at h109
          refine cv h109 ?_
          refine W ?_
          exact fin ⟨_, rfl, V1, rfl, false, 16, rfl, ⟨hh1, k1, by omega, fun _ => h51⟩, .inr (.inl rfl)⟩
        · rw [if_neg h51] at h109
          refine cv h109 ?_
          refine W ?_
          exact fin ⟨_, rfl, V1, rfl, false, 17, rfl, ⟨hh1, k1, by omega, fun e => by cases e⟩, .inr (.inr rfl)⟩
end
end Go.Proofs.YtnilejkfbcnkkaaGreatDoor.V
end
section
set_option maxRecDepth 100000
set_option maxHeartbeats 2000000
namespace Go.Proofs.YtnilejkfbcnkkaaGreatDoor.V
variable [GlK]
open Go Go.RowKit
attribute [local irreducible] Yields cl blk pur rowc sv exC fo cnt xorb blk0

theorem othM_all {M : Nat} : othM M (-1) = List.range M := by
  unfold othM
  refine List.filter_eq_self.2 fun m _ => ?_
  exact decide_eq_true (by omega)
section
variable {gv gh gb gs : Nat} {C : Nat → Nat → Blk} {V : Vlt} {l : Value} {h : Hul} {n : Nat}
theorem f104 (hr : RosOk h.r) (hn : n < h.r.g.s) : CtV Tryz.prog 104 [PP gv, I n] [vtC gv gh gb gs l, huC gh gb h] (if h.r.state = 5 then I 16 else I 0) := by
  have h66 := f66 (gv := gv) (gh := gh) (gb := gb) (gs := gs) (l := l)
  have h41 := f41 (gh := gh) (gb := gb) (h := h)
  have h39 := f39 (gh := gh) (gb := gb) hr
  refine w_ct Tryz.func104 rfl Tryz.ntmps104 rfl fun w B => ?_
  refine W ?_
  refine cv h66 ?_
  refine W ?_
  rw [decide_eq_false (show ¬ ((n : Nat) : Int) < 0 by omega)]
  refine W ?_
  refine cv h41 ?_
  refine W ?_
  refine w_y rfl rfl rfl (y_fN (vs := geL h.r.g) rfl sg_) ?_
  refine W ?_
  rw [decide_eq_false (show ¬ ((h.r.g.s : Nat) : Int) ≤ n by omega)]
  refine W ?_
  refine cv h39 ?_
  refine W ?_
  by_cases h5 : h.r.state = 5
  · rw [decide_eq_true (show (h.r.state : Int) = 5 by omega)]
    refine W ?_
    exact fin ⟨_, rfl, by rw [if_pos h5], rfl⟩
  · rw [decide_eq_false (show ¬ (h.r.state : Int) = 5 by omega)]
    refine W ?_
    exact fin ⟨_, rfl, by rw [if_neg h5], rfl⟩
/-- what a check comes to -/
def ChkQ (C : Nat → Nat → Blk) (V V' : Vlt) (v : Value) : Prop := ∃ (w : Bool) (e : Int), v = T [.bool w, .int .i64 e] ∧ VS C C 20000 V V' ∧ (e = 16 → V'.h.r.state = 5) ∧ ((e = 0 ∧ w = true) ∨ e = 16 ∨ e = 17)
theorem f59 (k : VK C V) (hn : n < V.h.r.g.s) (hk : V.b.k < 1099300000000) : Ct Tryz.prog 59 [PP gv, I n] (VtM gv gh gb gs V) (fun v L => ∃ V' : Vlt, L = VtM gv gh gb gs V' ∧ ChkQ C V V' v) := by
  have h104 := f104 (gv := gv) (gh := gh) (gb := gb) (gs := gs) (l := lgV V.l) (h := V.h) (n := n) k.hb.ok hn
  refine w_ct Tryz.func59 rfl Tryz.ntmps59 rfl fun w B => ?_
  refine W ?_
  by_cases h5 : V.h.r.state = 5
  · rw [if_pos h5] at h104
    refine cv h104 ?_
    refine W ?_
    exact fin ⟨_, rfl, V, rfl, false, 16, rfl, VS.refl k, fun _ => h5, .inr (.inl rfl)⟩
  · rw [if_neg h5] at h104
    have h57 := f57 (gv := gv) (gh := gh) (gb := gb) (gs := gs) (n := n) k hn (by omega)
    refine cv h104 ?_
    refine W ?_
    refine cl' h57 ?_
    rintro v _ ⟨V1, rfl, ⟨hv1, (⟨rfl, h6⟩ | ⟨rfl, h6⟩)⟩, hl1, hB⟩
    · obtain ⟨B, sb, hBC⟩ := hB rfl
      have hg1 : V1.h.r.g = V.h.r.g := hv1.mv.g
      have hk1 := hv1.k
      have h105 := f105 (gh := gh) (gb := gb) (h := V1.h) (b := V1.b) (n := n) hv1.ok.hb hv1.ok.id (by rw [hg1]; exact hn) (by omega)
      refine W ?_
      refine cl' h105 ?_
      rintro v _ ⟨h3, b3, rfl, hs, (⟨rfl, rfl, rfl, _, hall⟩ | ⟨rfl, h7, _⟩ | ⟨rfl, h7⟩)⟩
      · have hx : foldb (oth V1.b n V1.h.r.g.m (-1)) = blk0 := by
          unfold oth
          rw [othM_all]
          have : ((List.range V1.h.r.g.m).map fun j => V1.b.rd j (2 + n)) = (List.range V1.h.r.g.m).map (B n) := List.map_congr_left fun j hj => by
            have hj := List.mem_range.1 hj
            exact sb.dk n j hj (hall j hj).1 (hall j hj).2
          rw [this]
          exact sb.bx n (by rw [hg1]; exact hn)
        rw [decide_eq_true hx]
        refine W ?_
        exact fin ⟨_, rfl, V1, rfl, true, 0, rfl, hv1.mono (by omega), (fun e => by cases e), .inl ⟨rfl, rfl⟩⟩
      · have hv2 := hv1.trans (hv1.ok.hs hs)
        refine W ?_
        refine finE ⟨_, rfl, ⟨h3, b3, V1.s, V1.l⟩, rfl, false, 17, rfl, hv2.mono (by omega), (fun e => by cases e), .inr (.inr rfl)⟩ ?_
        show Ent _ [_, _, _, ShC gs h3.r.g V1.s, _, _]
        rw [hs.re.g]; exact ent_
      · have hv2 := hv1.trans (hv1.ok.hs hs)
        refine W ?_
        refine finE ⟨_, rfl, ⟨h3, b3, V1.s, V1.l⟩, rfl, false, 16, rfl, hv2.mono (by omega), fun _ => h7, .inr (.inl rfl)⟩ ?_
        show Ent _ [_, _, _, ShC gs h3.r.g V1.s, _, _]
        rw [hs.re.g]; exact ent_
    · refine W ?_
      exact fin ⟨_, rfl, V1, rfl, false, 16, rfl, hv1.mono (by omega), fun _ => h6, .inr (.inl rfl)⟩
/-- what a repair comes to: there is nothing to be repaired -/
def RepQ (C : Nat → Nat → Blk) (V V' : Vlt) (v : Value) : Prop := ∃ (w : Bool) (e : Int), v = T [.bool w, .int .i64 e] ∧ VS C C 20000 V V' ∧ (e = 16 → V'.h.r.state = 5) ∧ (e = 0 ∨ e = 16 ∨ e = 17)
theorem f63 (k : VK C V) (hn : n < V.h.r.g.s) (hk : V.b.k < 1099300000000) : Ct Tryz.prog 63 [PP gv, I n] (VtM gv gh gb gs V) (fun v L => ∃ V' : Vlt, L = VtM gv gh gb gs V' ∧ RepQ C V V' v) := by
  have h59 := f59 (gv := gv) (gh := gh) (gb := gb) (gs := gs) (n := n) k hn hk
  refine w_ct Tryz.func63 rfl Tryz.ntmps63 rfl fun w B => ?_
  refine W ?_
  refine cl' h59 ?_
  rintro v _ ⟨V1, rfl, ww, e, rfl, hv1, h16, hor⟩
  rcases hor with ⟨rfl, rfl⟩ | rfl | rfl
  · refine W ?_
    exact fin ⟨_, rfl, V1, rfl, false, 0, rfl, hv1, h16, .inl rfl⟩
  · refine W ?_
    exact fin ⟨_, rfl, V1, rfl, false, 16, rfl, hv1, h16, .inr (.inl rfl)⟩
  · refine W ?_
    exact fin ⟨_, rfl, V1, rfl, false, 17, rfl, hv1, h16, .inr (.inr rfl)⟩
end
end Go.Proofs.YtnilejkfbcnkkaaGreatDoor.V
end
