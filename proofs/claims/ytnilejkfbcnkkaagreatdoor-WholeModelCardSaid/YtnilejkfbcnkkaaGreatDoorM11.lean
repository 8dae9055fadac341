/- Proved: what a dead member comes to, and which cell may be asked for; how a cell is read and written; how all is made sure, what is found, how healing begins; how a cell is filled, and a new hull; the conditions stand in the statements. -/
import Derived.Test.YtnilejkfbcnkkaaGreatDoorM10
set_option linter.unusedVariables false
set_option linter.unusedSimpArgs false
set_option linter.unusedSectionVars false
section
set_option maxRecDepth 100000
set_option maxHeartbeats 4000000
namespace Go.Proofs.YtnilejkfbcnkkaaGreatDoor.V
open Go Go.RowKit
attribute [local irreducible] Yields cl blk pur rowc sv exC fo cnt

abbrev PlV (n m : Nat) : Value := A [I n, I m]
section
variable {gh gb : Nat} {h : Hul} {b : Ben}
theorem f161 {j : Nat} (hh : HB h b) (hj : j < h.r.g.m) (hd : b.dead j = true) (hk : b.k < 1099511626000) :
    Ct Tryz.prog 161 [PP gh, I j] [huC gh gb h, BenC gb b] (fun v L => ∃ h' b', v = I 0 ∧ L = [huC gh gb h', BenC gb b'] ∧ HS 600 h b h' b' ∧ h'.r.settled b.dead) := by
  refine w_ct Tryz.func161 rfl Tryz.ntmps161 rfl fun w B => ?_
  have h140 : CtV Tryz.prog 140 [RV h.r, I j] [] (T [RV (h.r.lose j), .bool (decide (h.r.st j ≠ 1))]) := f140 hh.ok hj
  have hl := HS.lose (c := 0) hh hj hd
  have h88 := f88 (gh := gh) (gb := gb) (hh.st hl) hk
  refine W ?_
  refine cv h140 ?_
  refine W ?_
  refine w_stN rfl rfl inferInstance inferInstance upd_ huSet ?_
  refine W ?_
  refine cl' h88 ?_
  rintro _ _ ⟨h', b', rfl, rfl, h1, h2⟩
  refine W ?_
  exact fin ⟨_, rfl, h', b', rfl, rfl, (hl.trans h1).mono (by omega), h2⟩
theorem f211 {j : Nat} {e d : Int} (hh : HB h b) (he : e ≠ 9) : CtV Tryz.prog 211 [PP gh, I j, .int .i64 e, .int .i64 d] [huC gh gb h, BenC gb b] (.int .i64 e) := by
  refine w_ct Tryz.func211 rfl Tryz.ntmps211 rfl fun w B => ?_
  refine W ?_
  rw [decide_eq_false he]
  refine W ?_
  exact fin ⟨_, rfl, rfl, rfl⟩
theorem f211d {j : Nat} {d : Int} (hh : HB h b) (hj : j < h.r.g.m) (hd : b.dead j = true) (hk : b.k < 1099511626000) :
    Ct Tryz.prog 211 [PP gh, I j, I 9, .int .i64 d] [huC gh gb h, BenC gb b] (fun v L => ∃ h' b', v = (if h'.r.state = 5 then I 16 else .int .i64 d) ∧ L = [huC gh gb h', BenC gb b'] ∧ HS 600 h b h' b' ∧ h'.r.settled b.dead) := by
  refine w_ct Tryz.func211 rfl Tryz.ntmps211 rfl fun w B => ?_
  have h161 := f161 (gh := gh) (gb := gb) hh hj hd hk
  refine W ?_
  refine cl' h161 ?_
  rintro _ _ ⟨h', b', rfl, rfl, h1, h2⟩
  have h159 := f159 (gh := gh) (gb := gb) (hh.st h1).ok
  refine W ?_
  refine cv h159 ?_
  by_cases e : h'.r.state = 5
  · rw [if_pos e]
    refine W ?_
    exact fin ⟨_, rfl, h', b', by rw [if_pos e], rfl, h1, h2⟩
  · rw [if_neg e]
    refine W ?_
    exact fin ⟨_, rfl, h', b', by rw [if_neg e], rfl, h1, h2⟩
theorem f254 {n m : Nat} (hr : RosOk h.r) (hn : n < h.r.g.s) (hm : m < h.r.g.m) : CtV Tryz.prog 254 [PP gh, PlV n m] [huC gh gb h] (T [I (2 + n : Nat), .bool true]) := by
  refine w_ct Tryz.func254 rfl Tryz.ntmps254 rfl fun w B => ?_
  have hs := hr.ge.s64
  have h214 := f214 (n := n) (by omega)
  refine W1 fun g3 => ?_
  rw [decide_eq_false (show ¬ ((n : Int) < 0) by omega)]
  refine W ?_
  rw [decide_eq_false (show ¬ ((h.r.g.s : Int) ≤ n) by omega)]
  refine W ?_
  rw [decide_eq_false (show ¬ ((m : Int) < 0) by omega)]
  refine W ?_
  rw [decide_eq_false (show ¬ ((h.r.g.m : Int) ≤ m) by omega)]
  refine W ?_
  refine cv h214 ?_
  refine W ?_
  exact fin ⟨_, rfl, rfl, rfl⟩
def Hul.ask (h : Hul) (n m : Nat) : Value := if h.r.state = 5 then T [I 0, I 16] else if h.r.has m n then T [I (2 + n : Nat), I 0] else T [I 0, I 7]
theorem f210 {n m : Nat} (hr : RosOk h.r) (hn : n < h.r.g.s) (hm : m < h.r.g.m) : CtV Tryz.prog 210 [PP gh, PlV n m] [huC gh gb h] (h.ask n m) := by
  refine w_ct Tryz.func210 rfl Tryz.ntmps210 rfl fun w B => ?_
  have h69 := f69 (gh := gh) (gb := gb) (h := h)
  have h254 := f254 (gh := gh) (gb := gb) hr hn hm
  have h159 := f159 (gh := gh) (gb := gb) hr
  have h247 := f247 hr hm hn
  by_cases e : h.r.state = 5
  · rw [if_pos e] at h159
    refine W1 fun g3 => ?_
    refine cv h69 ?_
    refine W ?_
    refine cv h254 ?_
    refine W ?_
    refine cv h159 ?_
    refine W ?_
    exact fin ⟨_, rfl, by unfold Hul.ask; rw [if_pos e], rfl⟩
  · rw [if_neg e] at h159
    refine W1 fun g3 => ?_
    refine cv h69 ?_
    refine W ?_
    refine cv h254 ?_
    refine W ?_
    refine cv h159 ?_
    refine W ?_
    refine cv h247 ?_
    cases hs : h.r.has m n
    · refine W ?_
      exact fin (v := T [I 0, I 7]) ⟨_, rfl, by unfold Hul.ask; simp [e, hs], rfl⟩
    · refine W ?_
      exact fin (v := T [I (2 + n : Nat), I 0]) ⟨_, rfl, by unfold Hul.ask; simp [e, hs], rfl⟩
end
end Go.Proofs.YtnilejkfbcnkkaaGreatDoor.V
end
section
set_option maxRecDepth 100000
set_option maxHeartbeats 4000000
namespace Go.Proofs.YtnilejkfbcnkkaaGreatDoor.V
open Go Go.RowKit
attribute [local irreducible] Yields cl blk pur rowc sv exC fo cnt

section
variable {gh gb : Nat} {h : Hul} {b : Ben}
def Ben.rd (b : Ben) (j s : Nat) : Blk := match b.ds[j]? with | some dv => dv.rd s | none => blk0
theorem Ben.rd_eq {b : Ben} {j s : Nat} {dv : Dev} (h : b.ds[j]? = some dv) : b.rd j s = dv.rd s := by unfold Ben.rd; rw [h]
/-- what a cell's reading comes to -/
def RdQ (h : Hul) (b : Ben) (n m : Nat) (h' : Hul) (b' : Ben) (v : Value) : Prop :=
  (v = T [BV (b.rd m (2 + n)), I 0] ∧ h' = h ∧ b' = b ∧ h.r.state ≠ 5 ∧ h.r.has m n = true ∧ b.dead m = false) ∨
  (v = T [BV blk0, I 7] ∧ h'.r.state ≠ 5 ∧ h'.r.has m n = false) ∨ (v = T [BV blk0, I 16] ∧ h'.r.state = 5)
theorem has_lost {r : Ros} {m n : Nat} (h : r.st m = 1) : r.has m n = false := by unfold Ros.has; simp [h]
theorem f180 {n m : Nat} (hh : HB h b) (hn : n < h.r.g.s) (hm : m < h.r.g.m) (hk : b.k < 1099511626000) :
    Ct Tryz.prog 180 [PP gh, PlV n m] [huC gh gb h, BenC gb b] (fun v L => ∃ h' b', L = [huC gh gb h', BenC gb b'] ∧ HS 600 h b h' b' ∧ RdQ h b n m h' b' v) := by
  refine w_ct Tryz.func180 rfl Tryz.ntmps180 rfl fun w B => ?_
  have h210 := f210 (gh := gh) (gb := gb) hh.ok hn hm
  obtain ⟨dv, hd, hdn⟩ := hh.dvn hm
  have h187 := f187 (gb := gb) (i := 2 + n) hd (by omega)
  by_cases e : h.r.state = 5
  · have ea : h.ask n m = T [I 0, I 16] := by unfold Hul.ask; rw [if_pos e]
    rw [ea] at h210
    refine W2 fun g3 g4 => ?_
    refine cv h210 ?_
    refine W ?_
    exact fin ⟨_, rfl, h, b, rfl, .refl hh, .inr (.inr ⟨rfl, e⟩)⟩
  · cases hs : h.r.has m n
    · have ea : h.ask n m = T [I 0, I 7] := by unfold Hul.ask; simp [e, hs]
      rw [ea] at h210
      refine W2 fun g3 g4 => ?_
      refine cv h210 ?_
      refine W ?_
      exact fin ⟨_, rfl, h, b, rfl, .refl hh, .inr (.inl ⟨rfl, e, hs⟩)⟩
    · have ea : h.ask n m = T [I (2 + n : Nat), I 0] := by unfold Hul.ask; simp [e, hs]
      rw [ea] at h210
      refine W2 fun g3 g4 => ?_
      refine cv h210 ?_
      refine W ?_
      refine w_dag [.q 0, .q 1, .q 2, .q 3, .q 4, .q 5, .q 6, .q 7, .q 8, .q 9, .q 10, .f 11, .a 11, .m 12 [10], .q 13] (by decide +kernel) ?_
      refine W ?_
      refine dq h187 ?_
      cases hdd : dv.dead
      · have h211 := f211 (gh := gh) (gb := gb) (h := h) (b := b) (j := m) (e := 0) (d := 7) hh (by decide)
        refine W1 fun g8 => ?_
        refine cv h211 ?_
        refine W ?_
        exact fin ⟨_, rfl, h, b, rfl, .refl hh, .inl ⟨by rw [Ben.rd_eq hd], rfl, rfl, e, hs, by rw [Ben.dead_eq hd]; exact hdd⟩⟩
      · have hD : b.dead m = true := by rw [Ben.dead_eq hd]; exact hdd
        have h211 := f211d (gh := gh) (gb := gb) (h := h) (b := b) (j := m) (d := 7) hh hm hD hk
        refine W1 fun g8 => ?_
        refine cl' h211 ?_
        rintro _ _ ⟨h', b', rfl, rfl, h1, h2⟩
        by_cases e5 : h'.r.state = 5
        · rw [if_pos e5]
          refine W ?_
          exact fin ⟨_, rfl, h', b', rfl, h1, .inr (.inr ⟨rfl, e5⟩)⟩
        · rw [if_neg e5]
          refine W ?_
          exact fin ⟨_, rfl, h', b', rfl, h1, .inr (.inl ⟨rfl, e5, has_lost (h2 m (by rw [h1.re.g]; exact hm) hD)⟩)⟩
/-- what a cell's writing comes to -/
def WrQ (h : Hul) (b : Ben) (n m : Nat) (x : Blk) (h' : Hul) (b' : Ben) (v : Value) : Prop :=
  (v = I 0 ∧ h' = h ∧ h.r.state ≠ 5 ∧ ((h.r.has m n = false ∧ b' = b) ∨ (h.r.has m n = true ∧ b.dead m = false ∧ ∃ dv, b.ds[m]? = some dv ∧ b' = ⟨b.ds.set m (dv.set (2 + n) x), b.k + 1⟩))) ∨
  (HS 600 h b h' b' ∧ ((v = I 0 ∧ h'.r.state ≠ 5 ∧ b.dead m = true ∧ h'.r.has m n = false) ∨ (v = I 16 ∧ h'.r.state = 5)))
theorem f157 {n m : Nat} {x : Blk} (hh : HB h b) (hn : n < h.r.g.s) (hm : m < h.r.g.m) (hk : b.k < 1099511626000) :
    Ct Tryz.prog 157 [PP gh, PlV n m, BV x] [huC gh gb h, BenC gb b] (fun v L => ∃ h' b', L = [huC gh gb h', BenC gb b'] ∧ WrQ h b n m x h' b' v) := by
  refine w_ct Tryz.func157 rfl Tryz.ntmps157 rfl fun w B => ?_
  have h210 := f210 (gh := gh) (gb := gb) hh.ok hn hm
  obtain ⟨dv, hd, hdn⟩ := hh.dvn hm
  have h129 := f129 (gb := gb) (i := 2 + n) (x := x) hd (by omega) (by omega)
  by_cases e : h.r.state = 5
  · have ea : h.ask n m = T [I 0, I 16] := by unfold Hul.ask; rw [if_pos e]
    rw [ea] at h210
    refine W2 fun g3 g4 => ?_
    refine cv h210 ?_
    refine W ?_
    exact fin ⟨_, rfl, h, b, rfl, .inr ⟨.refl hh, .inr ⟨rfl, e⟩⟩⟩
  · cases hs : h.r.has m n
    · have ea : h.ask n m = T [I 0, I 7] := by unfold Hul.ask; simp [e, hs]
      rw [ea] at h210
      refine W2 fun g3 g4 => ?_
      refine cv h210 ?_
      refine W ?_
      exact fin ⟨_, rfl, h, b, rfl, .inl ⟨rfl, rfl, e, .inl ⟨hs, rfl⟩⟩⟩
    · have ea : h.ask n m = T [I (2 + n : Nat), I 0] := by unfold Hul.ask; simp [e, hs]
      rw [ea] at h210
      refine W2 fun g3 g4 => ?_
      refine cv h210 ?_
      refine W ?_
      refine cl' h129 ?_
      rintro _ _ (⟨hdd, rfl, rfl⟩ | ⟨hdd, rfl, rfl⟩)
      · have hD : b.dead m = true := by rw [Ben.dead_eq hd]; exact hdd
        have h211 := f211d (gh := gh) (gb := gb) (h := h) (b := b) (j := m) (d := 0) hh hm hD hk
        refine W ?_
        refine cl' h211 ?_
        rintro _ _ ⟨h', b', rfl, rfl, h1, h2⟩
        by_cases e5 : h'.r.state = 5
        · rw [if_pos e5]
          refine W ?_
          exact fin ⟨_, rfl, h', b', rfl, .inr ⟨h1, .inr ⟨rfl, e5⟩⟩⟩
        · rw [if_neg e5]
          refine W ?_
          exact fin ⟨_, rfl, h', b', rfl, .inr ⟨h1, .inl ⟨rfl, e5, hD, has_lost (h2 m (by rw [h1.re.g]; exact hm) hD)⟩⟩⟩
      · have hl := (List.getElem?_eq_some_iff.1 hd).1
        have hb' : HB h ⟨b.ds.set m (dv.set (2 + n) x), b.k + 1⟩ := ⟨hh.ok, by simpa using hh.len, fun j dv' hj hd' => by
          by_cases ej : j = m
          · subst ej
            simp only [List.getElem?_set_self hl] at hd'
            cases hd'; exact hdn
          · simp only [List.getElem?_set_ne (Ne.symm ej)] at hd'
            exact hh.n j dv' hj hd'⟩
        have h211 := f211 (gh := gh) (gb := gb) (j := m) (e := 0) (d := 0) hb' (by decide)
        refine W ?_
        refine cv h211 ?_
        refine W ?_
        exact fin ⟨_, rfl, h, _, rfl, .inl ⟨rfl, rfl, e, .inr ⟨hs, by rw [Ben.dead_eq hd]; exact hdd, dv, hd, rfl⟩⟩⟩
end
end Go.Proofs.YtnilejkfbcnkkaaGreatDoor.V
end
section
set_option maxRecDepth 100000
set_option maxHeartbeats 4000000
namespace Go.Proofs.YtnilejkfbcnkkaaGreatDoor.V
open Go Go.RowKit
attribute [local irreducible] Yields cl blk pur rowc sv exC fo cnt

def ro0 : Ros := ⟨⟨0, 0, 0⟩, fun _ => 0, 0, false⟩
theorem f217r {r : Ros} (hr : RosOk r) {m : Nat} (hm : m < r.g.m) : Ct Tryz.prog 217 [RV r, I m] [] (fun v L => L = [] ∧ ((r.st m = 1 ∧ r.missing ≤ 1 ∧ r.gone = false ∧ v = T [RV { r.set m 2 with cur := 0 }, I 0]) ∨ (¬ (r.st m = 1 ∧ r.missing ≤ 1 ∧ r.gone = false) ∧ v = T [RV ro0, I 17]))) := by
  refine w_ct Tryz.func217 rfl Tryz.ntmps217 rfl fun w B => ?_
  have h2 := hr.ge.m16
  refine W2 fun g1 g2 => ?_
  refine cv (f197' hr hm) ?_
  refine W ?_
  refine w_y rfl rfl rfl (y_ld1 rfl mem_ (roAt (j := m) (by omega))) ?_
  by_cases h : (r.st m : Int) = 1
  · refine W ?_
    rw [decide_eq_false (show ¬ ((r.st m : Int) ≠ 1) by omega)]
    refine W ?_
    refine cv (f110 hr) ?_
    have hms : r.missing ≤ 16 := by unfold Ros.missing; omega
    refine W ?_
    by_cases h' : 1 < (r.missing : Int)
    · rw [decide_eq_true h']
      refine W ?_
      exact fin ⟨_, rfl, rfl, .inr ⟨by omega, rfl⟩⟩
    · rw [decide_eq_false h']
      refine W ?_
      obtain ⟨g, st, cur, gone⟩ := r
      simp only at *
      cases gone
      · refine W ?_
        refine w_st1 (v := u8 2) rfl rfl inferInstance upd_ (roSets (j := m) (s := 2) (by omega)) ?_
        refine W ?_
        exact fin ⟨_, rfl, rfl, .inl ⟨by omega, by omega, rfl, rfl⟩⟩
      · refine W ?_
        exact fin ⟨_, rfl, rfl, .inr ⟨by simp, rfl⟩⟩
  · refine W ?_
    rw [decide_eq_true (show ((r.st m : Int) ≠ 1) by omega)]
    refine W ?_
    exact fin ⟨_, rfl, rfl, .inr ⟨by omega, rfl⟩⟩
section
variable {gh gb : Nat} {h : Hul} {b : Ben}
theorem HS.flush {h : Hul} {b : Ben} (hh : HB h b) : HS 1 h b h ⟨b.ds, b.k + 1⟩ := ⟨rfl, .refl hh.ok, ⟨rfl, fun _ dv hd => ⟨dv, hd, rfl, rfl, fun _ _ _ => rfl⟩, by show b.k ≤ b.k + 1; omega, Nat.le_refl _⟩⟩
theorem f160 {j g1 : Nat} (hh : HB h b) (hj : j < h.r.g.m) (hk : b.k < 1099511626000) :
    Ct Tryz.prog 160 [I j, PP g1] [huC gh gb h, cl g1 [PP gh] 83, BenC gb b] (fun v L => ∃ h' b', v = I 0 ∧ L = [huC gh gb h', cl g1 [PP gh] 83, BenC gb b'] ∧ HS 600 h b h' b' ∧ ((h' = h ∧ b.dead j = false) ∨ h'.r.settled b.dead)) := by
  refine w_ct Tryz.func160 rfl Tryz.ntmps160 rfl fun w B => ?_
  obtain ⟨dv, hd, hdn⟩ := hh.dvn hj
  have h130 := f130 (gb := gb) hd (by omega) (by omega)
  refine W ?_
  refine cl' h130 ?_
  rintro _ _ (⟨e, rfl, rfl⟩ | ⟨e, rfl, rfl⟩)
  · have h161 := f161 (gh := gh) (gb := gb) hh hj (by rw [Ben.dead_eq hd]; exact e) hk
    refine W ?_
    refine cl' h161 ?_
    rintro _ _ ⟨h', b', rfl, rfl, h1, h2⟩
    refine W ?_
    exact fin ⟨_, rfl, h', b', rfl, rfl, h1, .inr h2⟩
  · refine W ?_
    exact fin ⟨_, rfl, h, _, rfl, rfl, (HS.flush hh).mono (by omega), .inl ⟨rfl, by rw [Ben.dead_eq hd]; exact e⟩⟩
theorem f137f {g1 : Nat} (hh : HB h b) (hk : b.k < 1099511600000) :
    Ct Tryz.prog 137 [PP gh, .func (.func 160) #[] #[PP g1]] [huC gh gb h, cl g1 [PP gh] 83, BenC gb b] (fun v L => ∃ h' b', v = I 0 ∧ L = [huC gh gb h', cl g1 [PP gh] 83, BenC gb b'] ∧ HS 9600 h b h' b' ∧ h'.r.settled b.dead) := by
  have h16 := hh.ok.ge.m16
  refine Ct.ent (f137 (gh := gh) (gb := gb) (σ := Hul × Ben) (hH := fun s => s.1) (HP := fun s => [cl g1 [PP gh] 83, BenC gb s.2]) (f := 160) (fs := []) (cs := [PP g1]) (M := h.r.g.m)
    (J := fun j s => HS (600 * j) h b s.1 s.2 ∧ ∀ i, i < j → b.dead i = true → s.1.r.st i = 1)
    (X := fun e s => False) inferInstance h16 ?_ ?_ ?_ (s0 := (h, b)) ⟨.refl hh, fun i hi => by omega⟩) ?_
  · rintro ⟨h', b'⟩ ⟨h1, _⟩; exact congrArg Geo.m h1.re.g
  · rintro j ⟨h', b'⟩ hj ⟨h1, h2⟩ hs
    exact ⟨h1.mono (by omega), fun i hi hd => by
      by_cases e : i = j
      · subst e; exact hs
      · exact h2 i (by omega) hd⟩
  · rintro j ⟨h', b'⟩ hj ⟨h1, h2⟩ hs
    dsimp only at h1 h2 hs ⊢
    have hh' := hh.st h1
    have hk2 := h1.be.k2
    have hg : h'.r.g.m = h.r.g.m := congrArg Geo.m h1.re.g
    refine Ct.ent (f160 (gh := gh) (gb := gb) (g1 := g1) (j := j) hh' (by omega) (by omega)) ?_
    rintro _ _ ⟨h2', b2, rfl, rfl, h3, h4⟩
    refine ⟨_, ⟨(h2', b2), rfl, .inl ⟨rfl, (h1.trans h3).mono (by omega), fun i hi hd => ?_⟩⟩, ent_⟩
    rcases h4 with ⟨rfl, h4⟩ | h4
    · by_cases e : i = j
      · subst e; rw [h1.be.dead] at h4; rw [h4] at hd; cases hd
      · exact h2 i (by omega) hd
    · rw [h1.be.dead] at h4
      have hg2 : h2'.r.g.m = h'.r.g.m := congrArg Geo.m h3.re.g
      exact h4 i (by omega) hd
  · rintro v _ ⟨⟨h', b'⟩, rfl, (⟨rfl, h1, h2⟩ | ⟨_, _, _, hf⟩)⟩
    · have hg : h'.r.g.m = h.r.g.m := congrArg Geo.m h1.re.g
      exact ⟨_, ⟨h', b', rfl, rfl, h1.mono (by omega), fun i hi hd => h2 i (by omega) hd⟩, ent_⟩
    · cases hf
theorem f100 (hh : HB h b) (hk : b.k < 1099511600000) :
    Ct Tryz.prog 100 [PP gh] [huC gh gb h, BenC gb b] (fun v L => ∃ h' b', L = [huC gh gb h', BenC gb b'] ∧ HS 9600 h b h' b' ∧ ((v = I 0 ∧ h'.r.state ≠ 5 ∧ h'.r.settled b.dead) ∨ (v = I 16 ∧ h'.r.state = 5))) := by
  refine w_ct Tryz.func100 rfl Tryz.ntmps100 rfl fun w B => ?_
  have h69 := f69 (gh := gh) (gb := gb) (h := h)
  have h159 := f159 (gh := gh) (gb := gb) hh.ok
  by_cases e : h.r.state = 5
  · rw [if_pos e] at h159
    refine W1 fun g1 => ?_
    refine cv h69 ?_
    refine W ?_
    refine cv h159 ?_
    refine W ?_
    exact fin ⟨_, rfl, h, b, rfl, .refl hh, .inr ⟨rfl, e⟩⟩
  · rw [if_neg e] at h159
    refine W1 fun g1 => ?_
    refine cv h69 ?_
    refine W ?_
    refine cv h159 ?_
    have hr := f137f (gh := gh) (gb := gb) (g1 := g1) hh hk
    refine W ?_
    refine cx hr ?_
    rintro _ _ ⟨h', b', rfl, rfl, h1, h2⟩
    have h159' := f159 (gh := gh) (gb := gb) (hh.st h1).ok
    refine W ?_
    by_cases e' : h'.r.state = 5
    · rw [if_pos e'] at h159'
      refine cv h159' ?_
      refine W ?_
      exact fin ⟨_, rfl, h', b', rfl, h1, .inr ⟨rfl, e'⟩⟩
    · rw [if_neg e'] at h159'
      refine cv h159' ?_
      refine W ?_
      exact fin ⟨_, rfl, h', b', rfl, h1, .inl ⟨rfl, e', h2⟩⟩
theorem f176 {j : Nat} (hr : RosOk h.r) (hj : j < h.r.g.m) :
    Ct Tryz.prog 176 [PP gh, I j] [huC gh gb h] (fun v L => (v = I 0 ∧ h.r.st j = 1 ∧ h.r.missing ≤ 1 ∧ h.r.gone = false ∧ L = [huC gh gb { h with r := { h.r.set j 2 with cur := 0 } }]) ∨ (v = I 17 ∧ ¬ (h.r.st j = 1 ∧ h.r.missing ≤ 1 ∧ h.r.gone = false) ∧ L = [huC gh gb h])) := by
  refine w_ct Tryz.func176 rfl Tryz.ntmps176 rfl fun w B => ?_
  have h69 := f69 (gh := gh) (gb := gb) (h := h)
  have h217 := f217r hr hj
  refine W ?_
  refine cv h69 ?_
  refine W ?_
  refine cl' h217 ?_
  rintro _ _ ⟨rfl, (⟨h1, h2, h3, rfl⟩ | ⟨h1, rfl⟩)⟩
  · refine W1 fun g5 => ?_
    refine w_stN rfl rfl inferInstance inferInstance upd_ huSet ?_
    refine W ?_
    exact fin ⟨_, rfl, .inl ⟨rfl, h1, h2, h3, rfl⟩⟩
  · refine W1 fun g5 => ?_
    exact fin ⟨_, rfl, .inr ⟨rfl, h1, rfl⟩⟩
theorem f177 {gone : Bool} (hr : RosOk h.r) :
    Ct Tryz.prog 177 [PP gh, .bool gone] [huC gh gb h] (fun v L => v = I 0 ∧ L = [huC gh gb { h with r := { h.r with gone := gone } }]) := by
  refine w_ct Tryz.func177 rfl Tryz.ntmps177 rfl fun w B => ?_
  have h69 := f69 (gh := gh) (gb := gb) (h := h)
  have h218 := f218 hr (gone := gone)
  refine W ?_
  refine cv h69 ?_
  refine W ?_
  refine cv h218 ?_
  refine W1 fun g5 => ?_
  refine w_stN rfl rfl inferInstance inferInstance upd_ huSet ?_
  refine W ?_
  exact fin ⟨_, rfl, rfl, rfl⟩
theorem f174 {j : Nat} (hh : HB h b) (hj : j < h.r.g.m) (hk : b.k < 1099511626000) :
    Ct Tryz.prog 174 [PP gh, I j] [huC gh gb h, BenC gb b] (fun v L => ∃ h' b', v = I 0 ∧ L = [huC gh gb h', BenC gb b'] ∧ HS 600 h b h' b' ∧ (b.dead j = true → h'.r.st j = 1) ∧ ((h' = h ∧ b' = b) ∨ (b.dead j = true ∧ h'.r.settled b.dead))) := by
  refine w_ct Tryz.func174 rfl Tryz.ntmps174 rfl fun w B => ?_
  have h69 := f69 (gh := gh) (gb := gb) (h := h)
  have h16 := hh.ok.ge.m16
  obtain ⟨dv, hd, hdn⟩ := hh.dvn hj
  have h14 := f14 (gb := gb) hd
  refine W ?_
  refine cv h69 ?_
  refine W ?_
  rw [decide_eq_false (show ¬ ((j : Int) < 0) by omega)]
  refine W ?_
  rw [decide_eq_false (show ¬ ((h.r.g.m : Int) ≤ j) by omega)]
  refine W ?_
  refine w_y rfl rfl rfl (y_ld1 rfl mem_ (huAt (j := j) (by omega))) ?_
  refine W ?_
  by_cases e : h.r.st j = 1
  · rw [decide_eq_true (show (h.r.st j : Int) = 1 by omega)]
    refine W ?_
    exact fin ⟨_, rfl, h, b, rfl, rfl, .refl hh, fun _ => e, .inl ⟨rfl, rfl⟩⟩
  · rw [decide_eq_false (show ¬ (h.r.st j : Int) = 1 by omega)]
    refine W ?_
    refine cv h14 ?_
    cases hdd : dv.dead
    · refine W ?_
      exact fin ⟨_, rfl, h, b, rfl, rfl, .refl hh, (fun h' => by rw [Ben.dead_eq hd, hdd] at h'; cases h'), .inl ⟨rfl, rfl⟩⟩
    · have hD : b.dead j = true := by rw [Ben.dead_eq hd]; exact hdd
      have h161 := f161 (gh := gh) (gb := gb) hh hj hD hk
      refine W ?_
      refine cl' h161 ?_
      rintro _ _ ⟨h', b', rfl, rfl, h1, h2⟩
      refine W ?_
      exact fin ⟨_, rfl, h', b', rfl, rfl, h1, fun h' => h2 j (by rw [h1.re.g]; exact hj) h', .inr ⟨hD, h2⟩⟩
end
end Go.Proofs.YtnilejkfbcnkkaaGreatDoor.V
end
section
set_option maxRecDepth 100000
set_option maxHeartbeats 4000000
namespace Go.Proofs.YtnilejkfbcnkkaaGreatDoor.V
open Go Go.RowKit
attribute [local irreducible] Yields cl blk pur rowc sv exC fo cnt

theorem cnt_uniq {st : Nat → Nat} {k m m' n : Nat} (h : cnt st k n = 1) (hm : m < n) (hm' : m' < n) (e : st m = k) (e' : st m' = k) : m' = m := by
  apply Classical.byContradiction
  intro hne
  have hc := cnt_set (st := st) (k := k) (m := m) (s := k + 1) (n := n) hm
  rw [if_pos e, if_neg (show ¬ k + 1 = k by omega)] at hc
  have := cnt_zero (st := fun i => if i = m then k + 1 else st i) (k := k) (n := n) (by omega) m' hm'
  apply this
  show (if m' = m then k + 1 else st m') = k
  rw [if_neg hne]; exact e'
theorem RosOk.one2 {r : Ros} (hr : RosOk r) {m m' : Nat} (hm : m < r.g.m) (hm' : m' < r.g.m) (e : r.st m = 2) (e' : r.st m' = 2) : m' = m := by
  have h16 := hr.ge.m16
  refine cnt_uniq (n := 16) (k := 2) ?_ (by omega) (by omega) e e'
  have := cnt_pos (st := r.st) (k := 2) (m := m) (j := 16) (by omega) e
  rcases hr.one with h | h <;> omega
theorem RosOk.next {r : Ros} (hr : RosOk r) {m : Nat} (hm : m < r.g.m) (e : r.st m = 2) : RosOk (r.next m) := by
  have h16 := hr.ge.m16
  have hs1 := hr.ge.s1
  have hcur := hr.cur
  unfold Ros.next
  split
  · rename_i hc
    have hcs := cnt_set (st := r.st) (k := 2) (m := m) (s := 0) (n := 16) (by omega)
    rw [if_pos e, if_neg (show ¬ (0 : Nat) = 2 by omega)] at hcs
    refine ⟨hr.ge, by show 0 < r.g.s; omega, fun j hj => ?_, fun j hj hj' => ?_, ?_⟩
    · show (if j = m then 0 else r.st j) ≤ 2
      have := hr.lo j hj
      split <;> omega
    · show (if j = m then 0 else r.st j) = 0
      have hj : r.g.m ≤ j := hj
      rw [if_neg (by omega)]; exact hr.hi j hj hj'
    · right
      refine ⟨?_, rfl⟩
      show cnt (fun i => if i = m then 0 else r.st i) 2 16 = 0
      rcases hr.one with h | h <;> omega
  · rename_i hc
    refine ⟨hr.ge, by show r.cur + 1 < r.g.s; omega, hr.lo, hr.hi, ?_⟩
    left
    have := cnt_pos (st := r.st) (k := 2) (m := m) (j := 16) (by omega) e
    rcases hr.one with h | h
    · exact h
    · omega
section
variable {gh gb : Nat} {h : Hul} {b : Ben}
/-- what a filling comes to -/
def FilQ (h : Hul) (b : Ben) (x : Blk) (h' : Hul) (b' : Ben) (v : Value) : Prop :=
  (v = I 0 ∧ h.r.state ≠ 5 ∧ ∃ m dv, m < h.r.g.m ∧ h.r.st m = 2 ∧ b.dead m = false ∧ b.ds[m]? = some dv ∧ b' = ⟨b.ds.set m (dv.set (2 + h.r.cur) x), b.k + 1⟩ ∧ h' = { h with r := h.r.next m }) ∨
  (v = I 17 ∧ h' = h ∧ b' = b ∧ cnt h.r.st 2 16 = 0) ∨
  (v = I 7 ∧ HS 600 h b h' b' ∧ h'.r.state ≠ 5 ∧ h'.r.settled b.dead ∧ ∃ m, m < h.r.g.m ∧ h.r.st m = 2 ∧ b.dead m = true) ∨
  (v = I 16 ∧ HS 600 h b h' b' ∧ h'.r.state = 5)
theorem f172 {x : Blk} (hh : HB h b) (hk : b.k < 1099511626000) :
    Ct Tryz.prog 172 [PP gh, BV x] [huC gh gb h, BenC gb b] (fun v L => ∃ h' b', L = [huC gh gb h', BenC gb b'] ∧ FilQ h b x h' b' v) := by
  refine w_ct Tryz.func172 rfl Tryz.ntmps172 rfl fun w B => ?_
  have h69 := f69 (gh := gh) (gb := gb) (h := h)
  have h159 := f159 (gh := gh) (gb := gb) hh.ok
  have h107 := f107 hh.ok
  have hs64 := hh.ok.ge.s64
  have hcur := hh.ok.cur
  by_cases e : h.r.state = 5
  · rw [if_pos e] at h159
    refine W1 fun g1 => ?_
    refine cv h69 ?_
    refine W ?_
    refine cv h159 ?_
    refine W ?_
    exact fin ⟨_, rfl, h, b, rfl, .inr (.inr (.inr ⟨rfl, .refl hh, e⟩))⟩
  · rw [if_neg e] at h159
    refine W1 fun g1 => ?_
    refine cv h69 ?_
    refine W ?_
    refine cv h159 ?_
    refine W ?_
    refine cl' h107 ?_
    rintro _ _ ⟨⟨m, bl', rfl, hb, hm⟩, rfl⟩
    cases bl'
    · refine W ?_
      exact fin ⟨_, rfl, h, b, rfl, .inr (.inl ⟨rfl, rfl, rfl, by simpa using hb⟩)⟩
    · obtain ⟨hm, hm2⟩ := hm rfl
      have h214 := f214 (n := h.r.cur) (by omega)
      obtain ⟨dv, hd, hdn⟩ := hh.dvn hm
      have h129 := f129 (gb := gb) (i := 2 + h.r.cur) (x := x) hd (by omega) (by omega)
      refine W ?_
      refine cv h214 ?_
      refine W ?_
      refine cl' h129 ?_
      rintro _ _ (⟨hdd, rfl, rfl⟩ | ⟨hdd, rfl, rfl⟩)
      · have hD : b.dead m = true := by rw [Ben.dead_eq hd]; exact hdd
        have h211 := f211d (gh := gh) (gb := gb) (h := h) (b := b) (j := m) (d := 7) hh hm hD hk
        refine W ?_
        refine cl' h211 ?_
        rintro _ _ ⟨h', b', rfl, rfl, h1, h2⟩
        by_cases e5 : h'.r.state = 5
        · rw [if_pos e5]
          refine W ?_
          exact fin ⟨_, rfl, h', b', rfl, .inr (.inr (.inr ⟨rfl, h1, e5⟩))⟩
        · rw [if_neg e5]
          refine W ?_
          exact fin ⟨_, rfl, h', b', rfl, .inr (.inr (.inl ⟨rfl, h1, e5, h2, m, hm, hm2, hD⟩))⟩
      · have hl := (List.getElem?_eq_some_iff.1 hd).1
        have hb' : HB h ⟨b.ds.set m (dv.set (2 + h.r.cur) x), b.k + 1⟩ := ⟨hh.ok, by simpa using hh.len, fun j dv' hj hd' => by
          by_cases ej : j = m
          · subst ej
            simp only [List.getElem?_set_self hl] at hd'
            cases hd'; exact hdn
          · simp only [List.getElem?_set_ne (Ne.symm ej)] at hd'
            exact hh.n j dv' hj hd'⟩
        have h211 := f211 (gh := gh) (gb := gb) (j := m) (e := 0) (d := 7) hb' (by decide)
        have h215 := f215 hh.ok
        refine W ?_
        refine cv h211 ?_
        refine W ?_
        refine cl' h215 ?_
        rintro _ _ ⟨rfl, (⟨h0, y, rfl⟩ | ⟨h0, m', hm', hm2', rfl⟩)⟩
        · exfalso
          exact absurd h0 (by simpa using hb)
        · obtain rfl := hh.ok.one2 hm hm' hm2 hm2'
          refine W ?_
          refine w_stN rfl rfl inferInstance inferInstance upd_ huSet ?_
          refine W ?_
          exact fin ⟨_, rfl, _, _, rfl, .inl ⟨rfl, e, m', dv, hm, hm2, by rw [Ben.dead_eq hd]; exact hdd, hd, rfl, rfl⟩⟩
theorem b114 {gb id : Nat} {ev : Int} {r : Ros} : Tryz.prog.built 114 [(0, PP gb), (1, U id), (2, .int .u64 ev), (3, RV r)] = some (PP gb :: U id :: .int .u64 ev :: roL r).toArray := by
  unfold Program.built; simp only [Tryz.underlying114]; kernel_rfl
theorem f87 {id : Nat} {ev : Int} {r : Ros} (hr : RosOk r) (hi : 0 < id) (he : ev ≤ 2305843009213693952) (hl : b.ds.length = r.g.m + 1) (hn : ∀ j dv, j < r.g.m → b.ds[j]? = some dv → 2 + r.g.s ≤ dv.n) :
    Ct Tryz.prog 87 [PP gb, U id, .int .u64 ev, RV r] [BenC gb b] (fun v L => ∃ gh, v = T [PP gh, I 0] ∧ L = [BenC gb b, huC gh gb ⟨id, ev, r⟩]) := by
  refine w_ct Tryz.func87 rfl Tryz.ntmps87 rfl fun w B => ?_
  have hd0 : ∃ dv, b.ds[0]? = some dv := ⟨_, List.getElem?_eq_getElem (by omega)⟩
  obtain ⟨dv0, hd0⟩ := hd0
  have h80 := f80 (gb := gb) hd0
  have h119 := f119 hr
  have h16 := hr.ge.m16
  have hs64 := hr.ge.s64
  refine W1 fun g7 => ?_
  refine cv h80 ?_
  refine W ?_
  rw [decide_eq_false (show ¬ ((b.ds.length : Nat) : Int) = 0 by omega)]
  refine W ?_
  refine w_dag [.q 0, .q 1, .q 2, .q 3, .q 4, .q 5, .q 6, .q 7, .q 8, .q 9, .q 10, .q 11, .q 12, .q 13, .q 14, .q 15, .q 16, .q 17, .q 18, .q 19] (by decide +kernel) ?_
  refine W ?_
  rw [decide_eq_false (show ¬ ((id : Nat) : Int) = 0 by omega)]
  refine W ?_
  rw [decide_eq_false (show ¬ (2305843009213693952 : Int) < ev by omega)]
  refine W ?_
  refine w_dgq rfl rfl (fun E => qt rfl rfl rfl (y_cl h119 rfl pick_)) ?_
  refine W ?_
  refine w_dgq rfl rfl (fun E => qt rfl rfl rfl (y_cl h80 rfl pick_)) ?_
  refine W ?_
  rw [decide_eq_false (show ¬ (((b.ds.length : Nat) : Int) ≠ (r.g.m : Int) + 1) by omega)]
  refine W ?_
  refine w_loop (γ := Nat) (fun j => [(0, PP gb), (1, U id), (2, .int .u64 ev), (7, PP g7), (36, I r.g.m), (37, I j)]) (fun j => [cl g7 (roL r) 92, BenC gb b]) (fun j => j ≤ r.g.m) (fun j => r.g.m - j) 0 sl_ ent_ (Nat.zero_le _) fun j B hj => ?_
  refine W ?_
  refine w_if rfl (fun h => ?_) (fun h => ?_)
  · have hlt : j < r.g.m := by omega
    have hdj : ∃ dv, b.ds[j]? = some dv := ⟨_, List.getElem?_eq_getElem (by omega)⟩
    obtain ⟨dv, hd⟩ := hdj
    have h128 := f128 (gb := gb) hd
    have hnj := hn j dv hlt hd
    refine w_skip ?_
    refine W ?_
    refine cv h128 ?_
    refine W ?_
    rw [decide_eq_false (show ¬ ((dv.n : Int) < 2 + (r.g.s : Int)) by omega)]
    refine W ?_
    exact w_land rfl (w_round (j + 1) (by omega) (by omega) sl_ ent_)
  · repeat (first | refine w_y (by rfl) (by rfl) (by rfl) (by first | exact y_move ev_ | exact y_ldW (by rfl) mem_) ?_ | refine w_nil ?_ | refine w_seq ?_ | refine w_region ?_ | refine w_jump (by rfl) ?_ | refine w_false (by rfl) ?_ | refine w_exit ?_)
    refine w_y rfl rfl rfl (y_build (ps := [(0, PP gb), (1, U id), (2, .int .u64 ev), (3, RV r)]) (c := (PP gb :: U id :: .int .u64 ev :: roL r).toArray) (by rw [Array.toList_map]; exact pts_) b114) ?_
    refine w_bx rfl rfl vc_ fun gh => ?_
    refine W ?_
    exact finE ⟨_, rfl, gh, rfl, rfl⟩ (Ent.sel sel_ (Ent.sel sel_ ent_))
end
end Go.Proofs.YtnilejkfbcnkkaaGreatDoor.V
end
