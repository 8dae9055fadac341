/- Proved: how cells are fetched, whoever is lost; what a cell is, and whether a stripe is sound; what a shelf is, and its small functions; how a stripe's line is touched; how a shelf reads; the conditions stand in the statements. -/
import Derived.Test.YtnilejkfbcnkkaaGreatDoorM11
set_option linter.unusedVariables false
set_option linter.unusedSimpArgs false
set_option linter.unusedSectionVars false
section
set_option maxRecDepth 100000
set_option maxHeartbeats 1000000
namespace Go.Proofs.YtnilejkfbcnkkaaGreatDoor.V
open Go Go.RowKit
attribute [local irreducible] Yields cl blk pur rowc sv exC fo cnt

def othM (M : Nat) (but : Int) : List Nat := (List.range M).filter fun m => decide ((m : Int) ≠ but)
def oth (b : Ben) (n M : Nat) (but : Int) : List Blk := (othM M but).map fun m => b.rd m (2 + n)
theorem othM_yes {M : Nat} {but : Int} (h : (M : Int) = but) : othM (M + 1) but = othM M but := by unfold othM; rw [List.range_succ, List.filter_append]; simp [h]
theorem othM_no {M : Nat} {but : Int} (h : (M : Int) ≠ but) : othM (M + 1) but = othM M but ++ [M] := by unfold othM; rw [List.range_succ, List.filter_append]; simp [h]
theorem oth_len {b : Ben} {n M : Nat} {but : Int} : (oth b n M but).length ≤ M := by
  unfold oth othM
  rw [List.length_map]
  exact Nat.le_trans (List.length_filter_le _ _) (by simp)
theorem has_out {r : Ros} {m n : Nat} (h : r.has m n = false) : r.st m ≠ 0 := by
  intro e; unfold Ros.has at h; simp [e] at h
theorem two_out {r : Ros} {m m' : Nat} (hm : m < 16) (hm' : m' < 16) (hne : m ≠ m') (h : r.st m ≠ 0) (h' : r.st m' ≠ 0) : r.state = 5 := by
  have c1 : cnt (fun i => if i = m then 0 else r.st i) 0 16 = cnt r.st 0 16 + 1 := by
    have := cnt_set (st := r.st) (k := 0) (m := m) (s := 0) (n := 16) hm
    rw [if_neg h, if_pos rfl] at this
    omega
  have c2 : cnt (fun i => if i = m' then 0 else (fun i => if i = m then 0 else r.st i) i) 0 16 = cnt (fun i => if i = m then 0 else r.st i) 0 16 + 1 := by
    have := cnt_set (st := fun i => if i = m then 0 else r.st i) (k := 0) (m := m') (s := 0) (n := 16) hm'
    have e : (fun i => if i = m then 0 else r.st i) m' = r.st m' := by show (if m' = m then 0 else r.st m') = _; rw [if_neg (Ne.symm hne)]
    rw [if_neg (show ¬ (fun i => if i = m then 0 else r.st i) m' = 0 by rw [e]; exact h'), if_pos rfl] at this
    omega
  have c3 := cnt_le (fun i => if i = m' then 0 else (fun i => if i = m then 0 else r.st i) i) 0 16
  have : 1 < r.missing := by unfold Ros.missing; omega
  unfold Ros.state
  rw [if_pos (.inl this)]
theorem RE.has {D : Nat → Bool} {r r' : Ros} (h : RE D r r') {m n : Nat} (hm : m < 16) (hf : r.has m n = false) : r'.has m n = false := by
  unfold Ros.has at hf ⊢
  simp only [Bool.or_eq_false_iff, Bool.and_eq_false_iff, decide_eq_false_iff_not] at hf ⊢
  obtain ⟨h1, h2⟩ := hf
  rcases h.st m with e | ⟨_, _, e⟩
  · rw [e]
    refine ⟨h1, ?_⟩
    rcases h2 with h2 | h2
    · exact .inl h2
    · rcases h.cur with c | ⟨c, c'⟩
      · exact .inr (by omega)
      · exact .inr (by omega)
  · omega
section
variable {gh gb : Nat} {h : Hul} {b : Ben}
theorem f168 {e n : Int} : CtV Tryz.prog 168 [.int .i64 e, .int .i64 n] [] (.int .i64 (if e = 7 then n else e)) := by
  refine w_ct Tryz.func168 rfl Tryz.ntmps168 rfl fun w B => ?_
  refine W ?_
  by_cases h : e = 7
  · rw [decide_eq_true h]
    refine W ?_
    exact fin (v := .int .i64 n) ⟨_, rfl, by rw [if_pos h], rfl⟩
  · rw [decide_eq_false h]
    refine W ?_
    exact fin (v := .int .i64 e) ⟨_, rfl, by rw [if_neg h], rfl⟩
/-- what the others' reading comes to -/
def OthQ (h : Hul) (b : Ben) (n : Nat) (but : Int) (a : Option Addr) (c : Nat) (l : List Blk) (h' : Hul) (b' : Ben) (v : Value) : Prop :=
  (v = T [.slice a l.length c, I 0] ∧ h' = h ∧ b' = b ∧ l = oth b n h.r.g.m but ∧ ∀ m, m < h.r.g.m → (m : Int) ≠ but → h.r.state ≠ 5 ∧ h.r.has m n = true ∧ b.dead m = false) ∨
  (v = T [.slice none 0 0, I 7] ∧ h'.r.state ≠ 5 ∧ ∃ m, m < h.r.g.m ∧ (m : Int) ≠ but ∧ h'.r.has m n = false) ∨
  (v = T [.slice none 0 0, I 16] ∧ h'.r.state = 5)
theorem f167 {n : Nat} {but : Int} (hh : HB h b) (hn : n < h.r.g.s) (hk : b.k < 1099511626000) :
    Ct Tryz.prog 167 [PP gh, I n, .int .i64 but] [huC gh gb h, BenC gb b] (fun v L => ∃ h' b' a c l, L = [huC gh gb h', BenC gb b', sv eBlk 51 l a c] ∧ HS 600 h b h' b' ∧ OthQ h b n but a c l h' b' v) := by
  refine w_ct Tryz.func167 rfl Tryz.ntmps167 rfl fun w B => ?_
  have h41 := f41 (gh := gh) (gb := gb) (h := h)
  have h16 := hh.ok.ge.m16
  refine W ?_
  refine cv h41 ?_
  refine W ?_
  refine w_y rfl rfl rfl (y_fN (vs := geL h.r.g) rfl sg_) ?_
  refine W ?_
  refine g_nil eBlk 51 rfl ?_
  refine w_loop (γ := Nat × List Blk × Option Addr × Nat) (fun ⟨j, l, a, c⟩ => [(0, PP gh), (1, I n), (2, .int .i64 but), (8, .slice a l.length c), (15, I h.r.g.m), (16, I j)])
    (fun ⟨j, l, a, c⟩ => [sv eBlk 51 l a c, huC gh gb h, BenC gb b]) (fun ⟨j, l, a, c⟩ => j ≤ h.r.g.m ∧ l = oth b n j but ∧ ∀ m, m < j → (m : Int) ≠ but → h.r.state ≠ 5 ∧ h.r.has m n = true ∧ b.dead m = false) (fun x => h.r.g.m - x.1) (0, [], none, 0) sl_ ent_
    ⟨Nat.zero_le _, rfl, fun m hm => by omega⟩ fun ⟨j, l, a, c⟩ B ⟨hj, hl, hm⟩ => ?_
  dsimp only at hj hl hm ⊢
  have hlen : l.length ≤ j := by rw [hl]; exact oth_len
  refine W ?_
  refine w_if rfl (fun hc => ?_) (fun hc => ?_)
  · have hlt : j < h.r.g.m := by omega
    refine w_skip ?_
    refine W ?_
    refine w_if rfl (fun he => ?_) (fun he => ?_)
    · refine W ?_
      refine w_land rfl (w_round (j + 1, l, a, c) ⟨hlt, ?_, fun m hm1 hm2 => ?_⟩ (by show h.r.g.m - (j + 1) < h.r.g.m - j; omega) sl_ ent_)
      · rw [hl]; unfold oth; rw [othM_yes he]
      · exact hm m (by omega) hm2
    · have h180 := f180 (gh := gh) (gb := gb) (n := n) (m := j) hh hn hlt hk
      refine W ?_
      refine cl' h180 ?_
      rintro _ _ ⟨h', b', rfl, h1, (⟨rfl, rfl, rfl, h2, h3, h4⟩ | ⟨rfl, h2, h3⟩ | ⟨rfl, h2⟩)⟩
      · refine W1 fun g10 => ?_
        refine w_bs1 eBlk (b'.rd j (2 + n)) rfl rfl rfl (by decide) fun gt => ?_
        refine W ?_
        refine w_ap eBlk (sel_ : Sel (sv eBlk 51 l a c) _ _) (rd_row (show rowc eBlk 51 [b'.rd j (2 + n)] gt 1 ∈ _ from mem_)) (by simp; omega) (by simp; omega) fun a' c' => ?_
        refine W ?_
        refine w_land rfl (w_round (j + 1, l ++ [b'.rd j (2 + n)], a', c') ⟨hlt, ?_, fun m hm1 hm2 => ?_⟩ (by show h'.r.g.m - (j + 1) < h'.r.g.m - j; omega) sl_ ent_)
        · rw [hl]; unfold oth; rw [othM_no (by omega)]; simp
        · by_cases em : m = j
          · subst em; exact ⟨h2, h3, h4⟩
          · exact hm m (by omega) hm2
      · refine W1 fun g10 => ?_
        refine g_nil eBlk 51 rfl ?_
        exact finE ⟨_, rfl, h', b', none, 0, [], rfl, h1, .inr (.inl ⟨rfl, h2, j, hlt, by omega, h3⟩)⟩ (Ent.sel sel_ (Ent.sel sel_ (Ent.sel sel_ ent_)))
      · refine W1 fun g10 => ?_
        refine g_nil eBlk 51 rfl ?_
        exact finE ⟨_, rfl, h', b', none, 0, [], rfl, h1, .inr (.inr ⟨rfl, h2⟩)⟩ (Ent.sel sel_ (Ent.sel sel_ (Ent.sel sel_ ent_)))
  · have hjj : j = h.r.g.m := by omega
    subst hjj
    refine W ?_
    exact finE ⟨_, rfl, h, b, a, c, l, rfl, .refl hh, .inl ⟨rfl, rfl, rfl, hl, hm⟩⟩ (Ent.sel sel_ (Ent.sel sel_ (Ent.sel sel_ ent_)))
end
end Go.Proofs.YtnilejkfbcnkkaaGreatDoor.V
end
section
set_option maxRecDepth 100000
set_option maxHeartbeats 1000000
namespace Go.Proofs.YtnilejkfbcnkkaaGreatDoor.V
open Go Go.RowKit
attribute [local irreducible] Yields cl blk pur rowc sv exC fo cnt

section
variable {gh gb : Nat} {h : Hul} {b : Ben}
/-- what a cell's fetching comes to -/
def CellQ (h : Hul) (b : Ben) (n m : Nat) (h' : Hul) (b' : Ben) (v : Value) : Prop :=
  (∃ x, v = T [BV x, I 0] ∧ h'.r.state ≠ 5 ∧ ((h' = h ∧ b' = b ∧ h.r.has m n = true ∧ b.dead m = false ∧ x = b.rd m (2 + n)) ∨
    (h'.r.has m n = false ∧ (∀ m', m' < h.r.g.m → m' ≠ m → h'.r.has m' n = true ∧ b.dead m' = false) ∧ x = foldb (oth b' n h.r.g.m m)))) ∨
  (v = T [BV blk0, I 16] ∧ h'.r.state = 5)
theorem f126 {n m : Nat} (hh : HB h b) (hn : n < h.r.g.s) (hm : m < h.r.g.m) (hk : b.k < 1099511625000) :
    Ct Tryz.prog 126 [PP gh, PlV n m] [huC gh gb h, BenC gb b] (fun v L => ∃ h' b', L = [huC gh gb h', BenC gb b'] ∧ HS 1200 h b h' b' ∧ CellQ h b n m h' b' v) := by
  refine w_ct Tryz.func126 rfl Tryz.ntmps126 rfl fun w B => ?_
  have h16 := hh.ok.ge.m16
  have h180 := f180 (gh := gh) (gb := gb) (n := n) (m := m) hh hn hm (by omega)
  refine W2 fun g3 g4 => ?_
  refine cl' h180 ?_
  rintro _ _ ⟨h', b', rfl, h1, (⟨rfl, rfl, rfl, h2, h3, h4⟩ | ⟨rfl, h2, h3⟩ | ⟨rfl, h2⟩)⟩
  · refine W1 fun g6 => ?_
    exact fin ⟨_, rfl, h', b', rfl, .refl hh, .inl ⟨_, rfl, h2, .inl ⟨rfl, rfl, h3, h4, rfl⟩⟩⟩
  · have hh' := hh.st h1
    have hg : h'.r.g = h.r.g := h1.re.g
    have hk2 := h1.be.k2
    have h167 := f167 (gh := gh) (gb := gb) (n := n) (but := (m : Int)) hh' (by rw [hg]; exact hn) (by omega)
    refine W1 fun g6 => ?_
    refine cl' h167 ?_
    rintro _ _ ⟨h2', b2, a, c, l, rfl, h5, (⟨rfl, rfl, rfl, rfl, h6⟩ | ⟨rfl, h6, m', h7, h8, h9⟩ | ⟨rfl, h6⟩)⟩
    · have h170 := f170 (a := a) (c := c) (l := oth b2 n h2'.r.g.m (m : Int))
      refine W ?_
      refine cv h170 ?_
      refine W ?_
      refine fin ⟨_, rfl, h2', b2, rfl, h1.mono (by omega), .inl ⟨foldb (oth b2 n h2'.r.g.m (m : Int)), rfl, h2, .inr ⟨h3, fun m' hm1 hm2 => ?_, by rw [hg]⟩⟩⟩
      have := h6 m' (by rw [hg]; exact hm1) (by omega)
      exact ⟨this.2.1, by rw [← h1.be.dead]; exact this.2.2⟩
    · exfalso
      have hg2 : h2'.r.g = h'.r.g := h5.re.g
      rw [hg] at h7
      exact h6 (two_out (m := m) (m' := m') (by omega) (by omega) (by omega) (has_out (h5.re.has (by omega) h3)) (has_out h9))
    · refine W ?_
      have h168 := f168 (e := 16) (n := 16)
      refine cv h168 ?_
      refine W ?_
      exact fin ⟨_, rfl, h2', b2, rfl, (h1.trans h5).mono (by omega), .inr ⟨rfl, h6⟩⟩
  · refine W1 fun g6 => ?_
    exact fin ⟨_, rfl, h', b', rfl, h1.mono (by omega), .inr ⟨rfl, h2⟩⟩
/-- what the asking whether a stripe is sound comes to -/
def SndQ (h : Hul) (b : Ben) (n : Nat) (h' : Hul) (b' : Ben) (v : Value) : Prop :=
  (v = T [.bool (decide (foldb (oth b n h.r.g.m (-1)) = blk0)), I 0] ∧ h' = h ∧ b' = b ∧ h.r.state ≠ 5 ∧ ∀ m, m < h.r.g.m → h.r.has m n = true ∧ b.dead m = false) ∨
  (v = T [.bool false, I 17] ∧ h'.r.state ≠ 5 ∧ ∃ m, m < h.r.g.m ∧ h'.r.has m n = false) ∨
  (v = T [.bool false, I 16] ∧ h'.r.state = 5)
theorem f105 {n : Nat} (hh : HB h b) (hi : 0 < h.id) (hn : n < h.r.g.s) (hk : b.k < 1099511625000) :
    Ct Tryz.prog 105 [PP gh, I n] [huC gh gb h, BenC gb b] (fun v L => ∃ h' b', L = [huC gh gb h', BenC gb b'] ∧ HS 600 h b h' b' ∧ SndQ h b n h' b' v) := by
  refine w_ct Tryz.func105 rfl Tryz.ntmps105 rfl fun w B => ?_
  have h122 := f122 (gh := gh) (gb := gb) (h := h)
  have h41 := f41 (gh := gh) (gb := gb) (h := h)
  have h167 := f167 (gh := gh) (gb := gb) (n := n) (but := -1) hh hn (by omega)
  have hm3 := hh.ok.ge.m3
  refine W ?_
  refine cv h122 ?_
  refine W ?_
  rw [decide_eq_false (show ¬ ((h.id : Nat) : Int) = 0 by omega)]
  refine W ?_
  rw [decide_eq_false (show ¬ ((n : Nat) : Int) < 0 by omega)]
  refine W ?_
  refine cv h41 ?_
  refine W ?_
  refine w_y rfl rfl rfl (y_fN (vs := geL h.r.g) rfl sg_) ?_
  refine W ?_
  rw [decide_eq_false (show ¬ ((h.r.g.s : Nat) : Int) ≤ n by omega)]
  refine W ?_
  refine cl' h167 ?_
  rintro _ _ ⟨h2', b2, a, c, l, rfl, h5, (⟨rfl, rfl, rfl, rfl, h6⟩ | ⟨rfl, h6, m', h7, h8, h9⟩ | ⟨rfl, h6⟩)⟩
  · have h170 := f170 (a := a) (c := c) (l := oth b2 n h2'.r.g.m (-1))
    have h169 := f169 (x := foldb (oth b2 n h2'.r.g.m (-1)))
    refine W ?_
    refine cv h170 ?_
    refine W ?_
    refine cv h169 ?_
    refine W ?_
    exact fin ⟨_, rfl, h2', b2, rfl, .refl hh, .inl ⟨rfl, rfl, rfl, (h6 0 (by omega) (by omega)).1, fun m hm => (h6 m hm (by omega)).2⟩⟩
  · have h168 := f168 (e := 7) (n := 17)
    refine W ?_
    refine cv h168 ?_
    refine W ?_
    exact fin ⟨_, rfl, h2', b2, rfl, h5, .inr (.inl ⟨rfl, h6, m', h7, h9⟩)⟩
  · have h168 := f168 (e := 16) (n := 17)
    refine W ?_
    refine cv h168 ?_
    refine W ?_
    exact fin ⟨_, rfl, h2', b2, rfl, h5, .inr (.inr ⟨rfl, h6⟩)⟩
end
end Go.Proofs.YtnilejkfbcnkkaaGreatDoor.V
end
section
set_option maxRecDepth 100000
set_option maxHeartbeats 1000000
namespace Go.Proofs.YtnilejkfbcnkkaaGreatDoor.V
variable [GlK]
open Go Go.RowKit
attribute [local irreducible] Yields cl blk pur rowc sv exC fo cnt

structure Shf where
  r : Nat
  ks : List (Nat × Bool)
  F : Nat → Ln
def LnsC (mp : List (Nat × Nat)) (F : Nat → Ln) : Chunk := exC 52 (fun _ : Unit => mp.map fun p => lnC p.2 (F p.1))
structure ShOk (g : Geo) (s : Shf) (mp : List (Nat × Nat)) : Prop where
  nd : (mp.map Prod.fst).Nodup
  kd : (s.ks.map Prod.fst).Nodup
  key : ∀ k, (lkp mp k).isSome = true ↔ k ∈ s.ks.map Prod.fst
  ln : ∀ k, (s.F k).m = g.m
  ab : ∀ k, k ∉ s.ks.map Prod.fst → s.F k = Ln.emp g.m
abbrev shL (g : Geo) (gl gm : Nat) : List Value := [I g.m, I g.s, I g.r, PP gl, .map (some gm)]
def ShM (gs : Nat) (g : Geo) (s : Shf) : Nat × Nat × List (Nat × Nat) → Hp := fun x => [pur (ShOk g s x.2.2), cl gs (shL g x.1 x.2.1) 170, LruO x.1 s.r s.ks, mpC (fun g => PP g) x.2.1 x.2.2, LnsC x.2.2 s.F]
/-- a shelf -/
def ShC (gs : Nat) (g : Geo) (s : Shf) : Chunk := exC 51 (ShM gs g s)
/-- a shelf but one of its lines -/
def ShR (gs : Nat) (g : Geo) (s : Shf) (k gx : Nat) : Chunk := exC 53 (fun x : Nat × Nat × List (Nat × Nat) => [pur (ShOk g s x.2.2 ∧ lkp x.2.2 k = some gx), cl gs (shL g x.1 x.2.1) 170, LruO x.1 s.r s.ks, mpC (fun g => PP g) x.2.1 x.2.2, LnsC (cutL x.2.2 k) s.F])
theorem mp_split {mp : List (Nat × Nat)} (hn : (mp.map Prod.fst).Nodup) {k gx : Nat} (h : lkp mp k = some gx) : mp.Perm ((k, gx) :: cutL mp k) := by
  have hm := lkp_mem h
  obtain ⟨j, hj, e⟩ := List.mem_iff_getElem.1 hm
  have h2 : mp[j]? = some (k, gx) := by rw [List.getElem?_eq_getElem hj, e]
  have := perm_erase h2
  rwa [cutL_at hn h2] at this
theorem lns_ent {mp mp' : List (Nat × Nat)} {F F' : Nat → Ln} {K : Hp} (hp : mp.Perm mp') (hf : ∀ p ∈ mp', F p.1 = F' p.1) : Ent (LnsC mp F :: K) (LnsC mp' F' :: K) := by
  refine (ent_exU (Ent.refl _)).trans (ent_ex () ?_)
  have e : mp'.map (fun p => lnC p.2 (F' p.1)) = mp'.map (fun p => lnC p.2 (F p.1)) := List.map_congr_left fun p hp => by rw [hf p hp]
  rw [e]
  exact Ent.perm ((hp.map _).append_right K)
theorem lns_cons {mp : List (Nat × Nat)} {F : Nat → Ln} {K : Hp} {k gx : Nat} : Ent (LnsC ((k, gx) :: mp) F :: K) (lnC gx (F k) :: LnsC mp F :: K) := by
  refine (ent_exU (Ent.refl _)).trans ?_
  exact Ent.cons _ (ent_ex () (.refl _))
theorem lns_cons' {mp : List (Nat × Nat)} {F : Nat → Ln} {K : Hp} {k gx : Nat} : Ent (lnC gx (F k) :: LnsC mp F :: K) (LnsC ((k, gx) :: mp) F :: K) :=
  ent_ex () (Ent.cons _ (ent_exU (Ent.refl _)))
theorem lns_out {mp : List (Nat × Nat)} {F : Nat → Ln} {K : Hp} {k gx : Nat} (hn : (mp.map Prod.fst).Nodup) (h : lkp mp k = some gx) : Ent (LnsC mp F :: K) (lnC gx (F k) :: LnsC (cutL mp k) F :: K) :=
  (lns_ent (mp_split hn h) fun _ _ => rfl).trans lns_cons
theorem cut_ne {mp : List (Nat × Nat)} {k : Nat} {p : Nat × Nat} (h : p ∈ cutL mp k) : p.1 ≠ k := by
  have := (List.mem_filter.1 h).2
  simpa using this
theorem lns_in {mp : List (Nat × Nat)} {F : Nat → Ln} {K : Hp} {k gx : Nat} {l : Ln} (hn : (mp.map Prod.fst).Nodup) (h : lkp mp k = some gx) : Ent (lnC gx l :: LnsC (cutL mp k) F :: K) (LnsC mp (fset F k l) :: K) := by
  have e : l = fset F k l k := by rw [fset_eq]
  refine Ent.trans ?_ (lns_ent (mp_split hn h).symm fun _ _ => rfl)
  refine Ent.trans ?_ lns_cons'
  rw [← e]
  exact Ent.cons _ (lns_ent (.refl _) fun p hp => (fset_ne (cut_ne hp)).symm)
theorem lns_put {mp : List (Nat × Nat)} {F : Nat → Ln} {K : Hp} {k gx : Nat} (h : lkp mp k = none) : Ent (lnC gx (F k) :: LnsC mp F :: K) (LnsC (putL mp k gx) F :: K) := by
  have e : putL mp k gx = mp ++ [(k, gx)] := by unfold putL; rw [h]; rfl
  rw [e]
  exact lns_cons'.trans (lns_ent (List.perm_append_comm (l₁ := [(k, gx)]) (l₂ := mp)) fun _ _ => rfl)
theorem lns_cut {mp : List (Nat × Nat)} {F F' : Nat → Ln} {K : Hp} {k gx : Nat} (hn : (mp.map Prod.fst).Nodup) (h : lkp mp k = some gx) (hf : ∀ k', k' ≠ k → F k' = F' k') : Ent (LnsC mp F :: K) (LnsC (cutL mp k) F' :: K) := by
  refine (lns_out hn h).trans (Ent.trans (Ent.sel (Sel.tl Sel.hd) (Ent.refl _)) ?_)
  refine (lns_ent (F' := F') (.refl _) fun p hp => hf p.1 (cut_ne hp)).trans (Ent.cons _ ?_)
  intro B hB
  obtain ⟨B1, B2, rfl, h1, h2⟩ := hB
  exact ⟨B2, B1, List.perm_append_comm, h2⟩
theorem ent_exE {γ : Type} {tag : Nat} {M : γ → Hp} {L K N : Hp} (hs : Sel (exC tag M) L K) (h : ∀ x, Ent (M x ++ K) N) : Ent L N := (Ent.perm hs).trans (by
  rintro B ⟨B1, B2, rfl, h1, h2⟩
  unfold exC at h1
  obtain ⟨x, hx⟩ := h1
  exact h x _ (Sat.app.2 ⟨_, _, rfl, hx, h2⟩))
theorem ent_purE {φ : Prop} {K N : Hp} (h : φ → Ent K N) : Ent (pur φ :: K) N := by
  rintro B ⟨B1, B2, rfl, h1, h2⟩
  unfold pur at h1
  obtain ⟨hφ, rfl⟩ := h1
  exact h hφ _ h2
theorem fset_self {F : Nat → Ln} {k : Nat} : fset F k (F k) = F := by
  funext j; unfold fset; split
  · rename_i h; rw [h]
  · rfl
theorem ShOk.set {g : Geo} {s : Shf} {mp : List (Nat × Nat)} (h : ShOk g s mp) {k : Nat} {l : Ln} (hl : l.m = g.m) (hk : k ∈ s.ks.map Prod.fst) : ShOk g { s with F := fset s.F k l } mp := by
  refine ⟨h.nd, h.kd, h.key, fun j => ?_, fun j hj => ?_⟩
  · show (fset s.F k l j).m = g.m
    by_cases e : j = k
    · subst e; rw [fset_eq]; exact hl
    · rw [fset_ne e]; exact h.ln j
  · show fset s.F k l j = _
    have hj : j ∉ s.ks.map Prod.fst := hj
    rw [fset_ne (by intro e; subst e; exact hj hk)]; exact h.ab j hj
theorem ent_shr {gs : Nat} {g : Geo} {s : Shf} {k gx : Nat} {l : Ln} {K : Hp} (hl : l.m = g.m) : Ent (lnC gx l :: ShR gs g s k gx :: K) (ShC gs g { s with F := fset s.F k l } :: K) := by
  refine ent_exE (Sel.tl Sel.hd) fun ⟨gl, gm, mp⟩ => ?_
  refine ent_purE fun ⟨ho, hk⟩ => ?_
  have hkm : k ∈ s.ks.map Prod.fst := (ho.key k).1 (by rw [hk]; rfl)
  refine ent_ex (gl, gm, mp) (ent_pur (ho.set hl hkm) ?_)
  refine Ent.sel sel_ (Ent.sel sel_ (Ent.sel sel_ ?_))
  refine Ent.trans (Ent.sel (sel_ : Sel (lnC gx l) _ _) (Ent.sel (sel_ : Sel (LnsC (cutL mp k) s.F) _ _) (.refl _))) (lns_in ho.nd hk)
theorem ent_shr0 {gs : Nat} {g : Geo} {s : Shf} {k gx : Nat} {K : Hp} (hl : (s.F k).m = g.m) : Ent (lnC gx (s.F k) :: ShR gs g s k gx :: K) (ShC gs g s :: K) := by
  have := ent_shr (gs := gs) (g := g) (s := s) (k := k) (gx := gx) (K := K) hl
  rwa [fset_self] at this
section
variable {gs : Nat} {g : Geo} {s : Shf} {gl gm : Nat}
theorem f116 : CtV Tryz.prog 116 [PP gs] [cl gs (shL g gl gm) 170] (.bool false) := by
  refine w_ct Tryz.func116 rfl Tryz.ntmps116 rfl fun w B => ?_
  refine W ?_
  refine w_y rfl rfl rfl (y_mN rfl rfl) ?_
  refine W ?_
  exact fin ⟨_, rfl, rfl, rfl⟩
theorem f178 {k : Nat} (hk : k < g.s) : CtV Tryz.prog 178 [PP gs, I k] [cl gs (shL g gl gm) 170] (.bool true) := by
  refine w_ct Tryz.func178 rfl Tryz.ntmps178 rfl fun w B => ?_
  refine W ?_
  rw [decide_eq_true (show (0 : Int) ≤ k by omega)]
  refine W ?_
  exact fin (v := .bool (decide ((k : Int) < g.s))) ⟨_, rfl, by simp [hk], rfl⟩
theorem f123 {n m : Nat} (hn : n < g.s) (hm : m < g.m) : CtV Tryz.prog 123 [PP gs, PlV n m] [cl gs (shL g gl gm) 170] (.bool true) := by
  refine w_ct Tryz.func123 rfl Tryz.ntmps123 rfl fun w B => ?_
  have h178 := f178 (gs := gs) (g := g) (gl := gl) (gm := gm) hn
  refine W1 fun g3 => ?_
  first
    | refine cv h178 ?_
    | refine cq h178 ?_
  refine W ?_
  rw [decide_eq_true (show (0 : Int) ≤ m by omega)]
  refine W ?_
  exact fin (v := .bool (decide ((m : Int) < g.m))) ⟨_, rfl, by simp [hm], rfl⟩
end
end Go.Proofs.YtnilejkfbcnkkaaGreatDoor.V
end
section
set_option maxRecDepth 100000
set_option maxHeartbeats 1000000
namespace Go.Proofs.YtnilejkfbcnkkaaGreatDoor.V
variable [GlK]
open Go Go.RowKit
attribute [local irreducible] Yields cl blk pur rowc sv exC fo cnt

/-- what touching does -/
def TchR (g : Geo) (s : Shf) (k : Nat) (s' : Shf) : Prop :=
  s'.r = s.r ∧ ((k ∈ s.ks.map Prod.fst ∧ s'.ks.Perm s.ks ∧ s'.F = s.F) ∨ (k ∉ s.ks.map Prod.fst ∧ s.ks.length < s.r ∧ s'.ks = (k, false) :: s.ks ∧ s'.F = s.F) ∨
    (k ∉ s.ks.map Prod.fst ∧ ∃ k0 rest, s.ks.Perm ((k0, false) :: rest) ∧ s'.ks = (k, false) :: rest ∧ s'.F = fset s.F k0 (.emp g.m)))
theorem ShOk.perm {g : Geo} {s : Shf} {mp : List (Nat × Nat)} (h : ShOk g s mp) {ks' : List (Nat × Bool)} (hp : ks'.Perm s.ks) : ShOk g { s with ks := ks' } mp :=
  ⟨h.nd, ((hp.map Prod.fst).nodup_iff).2 h.kd, fun k => (h.key k).trans ((hp.map Prod.fst).mem_iff).symm, h.ln, fun k hk => h.ab k fun h' => hk (((hp.map Prod.fst).mem_iff).2 h')⟩
theorem ShOk.add {g : Geo} {s : Shf} {mp : List (Nat × Nat)} (h : ShOk g s mp) {k gx : Nat} (hk : k ∉ s.ks.map Prod.fst) : ShOk g { s with ks := (k, false) :: s.ks } (putL mp k gx) := by
  refine ⟨putL_nd h.nd, ?_, fun j => ?_, h.ln, fun j hj => ?_⟩
  · show ((k, false) :: s.ks).map Prod.fst |>.Nodup
    rw [List.map_cons]; exact List.nodup_cons.2 ⟨hk, h.kd⟩
  · show (lkp (putL mp k gx) j).isSome = true ↔ j ∈ ((k, false) :: s.ks).map Prod.fst
    rw [lkp_putL, List.map_cons, List.mem_cons]
    by_cases e : j = k
    · simp [e]
    · rw [if_neg e]; exact ⟨fun h' => .inr ((h.key j).1 h'), fun h' => (h.key j).2 (h'.resolve_left e)⟩
  · have hj : j ∉ ((k, false) :: s.ks).map Prod.fst := hj
    rw [List.map_cons, List.mem_cons] at hj
    exact h.ab j fun h' => hj (.inr h')
theorem ShOk.cut {g : Geo} {s : Shf} {mp : List (Nat × Nat)} (h : ShOk g s mp) {k0 : Nat} {bo : Bool} {rest : List (Nat × Bool)} (hp : s.ks.Perm ((k0, bo) :: rest)) : ShOk g { s with ks := rest, F := fset s.F k0 (.emp g.m) } (cutL mp k0) := by
  have hp' : (s.ks.map Prod.fst).Perm (k0 :: rest.map Prod.fst) := hp.map Prod.fst
  have hn := (hp'.nodup_iff).1 h.kd
  have hn1 := (List.nodup_cons.1 hn).1
  refine ⟨cutL_nd h.nd, (List.nodup_cons.1 hn).2, fun j => ?_, fun j => ?_, fun j hj => ?_⟩
  · show (lkp (cutL mp k0) j).isSome = true ↔ j ∈ rest.map Prod.fst
    rw [lkp_cutL]
    by_cases e : j = k0
    · subst e; simp only [if_true]; exact ⟨(fun h' => by cases h'), fun h' => absurd h' hn1⟩
    · rw [if_neg e, h.key j, hp'.mem_iff, List.mem_cons]; exact ⟨fun h' => h'.resolve_left e, .inr⟩
  · show (fset s.F k0 (.emp g.m) j).m = g.m
    by_cases e : j = k0
    · subst e; rw [fset_eq]; rfl
    · rw [fset_ne e]; exact h.ln j
  · show fset s.F k0 (.emp g.m) j = _
    by_cases e : j = k0
    · subst e; rw [fset_eq]
    · rw [fset_ne e]
      exact h.ab j fun h' => hj (by rw [hp'.mem_iff, List.mem_cons] at h'; exact h'.resolve_left e)
section
variable {gs : Nat} {g : Geo} {s : Shf}
theorem f125 {k : Nat} (hg : GeoOk g) : Ct Tryz.prog 125 [PP gs, I k] [ShC gs g s] (fun v L => (∃ s' gx, v = PP gx ∧ L = [lnC gx (s'.F k), ShR gs g s' k gx] ∧ TchR g s k s') ∨
    (v = PN ∧ L = [ShC gs g s] ∧ k ∉ s.ks.map Prod.fst ∧ s.ks.length = s.r ∧ ∀ p ∈ s.ks, p.2 = true)) := by
  refine w_ct Tryz.func125 rfl Tryz.ntmps125 rfl fun w B => ?_
  obtain ⟨r, ks, F⟩ := s
  have hm3 := hg.m3
  have hm16 := hg.m16
  refine g_ex rfl Sel.hd fun ⟨gl, gm, mp⟩ => ?_
  refine g_pure rfl Sel.hd fun ho => ?_
  have h184 := f184 (gl := gl) (k := k) (r := r) (ks := ks)
  have h185 := f185 (i := g.m) (by omega) hm16
  refine W ?_
  refine cl' h184 ?_
  rintro _ _ ⟨ks', rfl, (⟨h1, h2, rfl⟩ | ⟨h1, h2, rfl, rfl⟩ | ⟨h1, k0, rest, h2, rfl, rfl⟩ | ⟨h1, h2, h3, rfl, rfl⟩)⟩
  · have hs : (lkp mp k).isSome = true := (ho.key k).2 h1
    obtain ⟨gx, hgx⟩ := Option.isSome_iff_exists.1 hs
    refine W ?_
    refine w_y rfl rfl rfl (y_lk0 rfl rfl mem_) ?_
    rw [hgx]
    refine W ?_
    refine finE ⟨_, rfl, .inl ⟨⟨r, ks', F⟩, gx, rfl, rfl, rfl, .inl ⟨h1, h2, rfl⟩⟩⟩ ?_
    refine Ent.trans (Ent.sel (sel_ : Sel (LnsC mp F) _ _) (Ent.refl _)) ?_
    refine (lns_out ho.nd hgx).trans ?_
    refine Ent.cons _ ?_
    refine ent_ex (gl, gm, mp) ?_
    exact ent_pur ⟨ho.perm h2, hgx⟩ ent_
  · have hno : lkp mp k = none := by
      cases e : lkp mp k with
      | none => rfl
      | some x => exact absurd ((ho.key k).1 (by rw [e]; rfl)) h1
    have hFk : F k = .emp g.m := ho.ab k h1
    refine W ?_
    refine w_y rfl rfl rfl (y_lk0 rfl rfl mem_) ?_
    rw [hno]
    refine W ?_
    refine cl' h185 ?_
    rintro _ _ ⟨gx, rfl, rfl⟩
    refine W ?_
    refine w_mu (a := gx) (v := PP gx) rfl rfl rfl rfl upd_ ?_
    refine W ?_
    refine finE ⟨_, rfl, .inl ⟨⟨r, (k, false) :: ks, F⟩, gx, rfl, rfl, rfl, .inr (.inl ⟨h1, h2, rfl, rfl⟩)⟩⟩ ?_
    have hk' : lkp (putL mp k gx) k = some gx := by rw [lkp_putL, if_pos rfl]
    refine Ent.trans (Ent.sel (sel_ : Sel (cl gx (lnL (.emp g.m)) 228) _ _) (Ent.sel (sel_ : Sel (LnsC mp F) _ _) (Ent.refl _))) ?_
    rw [← hFk]
    refine (lns_put hno).trans ?_
    refine (lns_out (putL_nd ho.nd) hk').trans ?_
    refine Ent.cons _ ?_
    refine ent_ex (gl, gm, putL mp k gx) ?_
    exact ent_pur ⟨ho.add h1, hk'⟩ ent_
  · have hcu := ho.cut h2
    have hp' : (ks.map Prod.fst).Perm (k0 :: rest.map Prod.fst) := h2.map Prod.fst
    have hk0 : k0 ∈ ks.map Prod.fst := hp'.mem_iff.2 List.mem_cons_self
    obtain ⟨g0, hg0⟩ := Option.isSome_iff_exists.1 ((ho.key k0).2 hk0)
    have hne : k ≠ k0 := fun e => h1 (e ▸ hk0)
    have hkr : k ∉ rest.map Prod.fst := fun h' => h1 (hp'.mem_iff.2 (List.mem_cons_of_mem _ h'))
    have hno : lkp (cutL mp k0) k = none := by
      rw [lkp_cutL, if_neg hne]
      cases e : lkp mp k with
      | none => rfl
      | some x => exact absurd ((ho.key k).1 (by rw [e]; rfl)) h1
    have hFk : fset F k0 (.emp g.m) k = .emp g.m := hcu.ab k hkr
    refine W ?_
    refine w_md rfl rfl rfl upd_ ?_
    refine W ?_
    refine w_y rfl rfl rfl (y_lk0 rfl rfl mem_) ?_
    rw [hno]
    refine W ?_
    refine cl' h185 ?_
    rintro _ _ ⟨gx, rfl, rfl⟩
    refine W ?_
    refine w_mu (a := gx) (v := PP gx) rfl rfl rfl rfl upd_ ?_
    refine W ?_
    refine finE ⟨_, rfl, .inl ⟨⟨r, (k, false) :: rest, fset F k0 (.emp g.m)⟩, gx, rfl, rfl, rfl, .inr (.inr ⟨h1, k0, rest, h2, rfl, rfl⟩)⟩⟩ ?_
    have hk' : lkp (putL (cutL mp k0) k gx) k = some gx := by rw [lkp_putL, if_pos rfl]
    refine Ent.trans (Ent.sel (sel_ : Sel (LnsC mp F) _ _) (Ent.sel (sel_ : Sel (cl gx (lnL (.emp g.m)) 228) _ _) (Ent.refl _))) ?_
    refine (lns_cut (F' := fset F k0 (.emp g.m)) ho.nd hg0 fun k' hk' => (fset_ne hk').symm).trans ?_
    refine Ent.trans (Ent.sel (sel_ : Sel (cl gx (lnL (.emp g.m)) 228) _ _) (Ent.sel (sel_ : Sel (LnsC (cutL mp k0) (fset F k0 (.emp g.m))) _ _) (Ent.refl _))) ?_
    rw [show cl gx (lnL (.emp g.m)) 228 = lnC gx (fset F k0 (.emp g.m) k) by rw [hFk]; rfl]
    refine (lns_put hno).trans ?_
    refine (lns_out (putL_nd (cutL_nd ho.nd)) hk').trans ?_
    refine Ent.cons _ ?_
    refine ent_ex (gl, gm, putL (cutL mp k0) k gx) ?_
    exact ent_pur ⟨hcu.add hkr, hk'⟩ ent_
  · refine W ?_
    exact finE ⟨_, rfl, .inr ⟨rfl, rfl, h1, h2, h3⟩⟩ (ent_ex (gl, gm, mp) (ent_pur ho ent_))
end
end Go.Proofs.YtnilejkfbcnkkaaGreatDoor.V
end
section
set_option maxRecDepth 100000
set_option maxHeartbeats 2000000
namespace Go.Proofs.YtnilejkfbcnkkaaGreatDoor.V
variable [GlK]
open Go Go.RowKit
attribute [local irreducible] Yields cl blk pur rowc sv exC fo cnt

theorem lns_back {mp : List (Nat × Nat)} {F : Nat → Ln} {K : Hp} {k gx : Nat} (hn : (mp.map Prod.fst).Nodup) (h : lkp mp k = some gx) : Ent (lnC gx (F k) :: LnsC (cutL mp k) F :: K) (LnsC mp F :: K) := by
  have := lns_in (F := F) (K := K) (l := F k) hn h
  rwa [fset_self] at this
abbrev lkV (mp : List (Nat × Nat)) (k : Nat) : Value := optV (fun g => PP g) (.pointer none) (lkp mp k)
/-- what a line that may lack knows -/
theorem f124s {g : Geo} {s : Shf} {mp : List (Nat × Nat)} {k i : Nat} (ho : ShOk g s mp) (hi : i < g.m) (hm : g.m ≤ 16) : CtV Tryz.prog 124 [lkV mp k, I i] [LnsC mp s.F] (if (s.F k).kn i then T [BV ((s.F k).bs i), .bool true] else T [BV blk0, .bool false]) := by
  unfold lkV
  cases hlk : lkp mp k with
  | none =>
    have hFk : s.F k = .emp g.m := ho.ab k fun h' => by
      have := (ho.key k).2 h'
      rw [hlk] at this; cases this
    rw [hFk]
    refine Ct.ent (Ct.frame (K := [LnsC mp s.F]) (f124n (i := (i : Int))) ent_) ?_
    rintro _ _ ⟨_, ⟨rfl, rfl⟩, rfl⟩
    exact ⟨_, ⟨rfl, rfl⟩, ent_⟩
  | some gx =>
    refine Ct.ent (Ct.frame (K := [LnsC (cutL mp k) s.F]) (f124 (g := gx) (l := s.F k) (i := i) (by rw [ho.ln]; exact hi) (by rw [ho.ln]; exact hm)) (lns_out ho.nd hlk)) ?_
    rintro _ _ ⟨_, ⟨rfl, rfl⟩, rfl⟩
    exact ⟨_, ⟨rfl, rfl⟩, lns_back ho.nd hlk⟩
section
variable {gs gh gb : Nat} {s : Shf} {h : Hul} {b : Ben}
/-- what a reading does to a shelf -/
def ShRdQ (s : Shf) (h : Hul) (b : Ben) (n m : Nat) (s' : Shf) (h' : Hul) (b' : Ben) (v : Value) : Prop :=
  ((s.F n).kn m = true ∧ v = T [BV ((s.F n).bs m), I 0] ∧ h' = h ∧ b' = b ∧ (TchR h.r.g s n s' ∨ s' = s)) ∨
  ((s.F n).kn m = false ∧ CellQ h b n m h' b' v ∧
    ((∃ x, v = T [BV x, I 0] ∧ ((∃ t, TchR h.r.g s n t ∧ s' = { t with F := fset t.F n ((t.F n).learn m x) }) ∨ s' = s)) ∨ (v = T [BV blk0, I 16] ∧ s' = s)))
theorem Ln.learn_m {l : Ln} {i : Nat} {x : Blk} : (l.learn i x).m = l.m := by unfold Ln.learn; split <;> rfl
theorem TchR.m {g : Geo} {s t : Shf} {n : Nat} (h : TchR g s n t) (hs : ∀ k, (s.F k).m = g.m) (k : Nat) : (t.F k).m = g.m := by
  rcases h.2 with ⟨_, _, e⟩ | ⟨_, _, _, e⟩ | ⟨_, k0, _, _, _, e⟩
  · rw [e]; exact hs k
  · rw [e]; exact hs k
  · rw [e]
    by_cases e' : k = k0
    · subst e'; rw [fset_eq]; rfl
    · rw [fset_ne e']; exact hs k
theorem f78 {n m : Nat} (hh : HB h b) (hi : 0 < h.id) (hn : n < h.r.g.s) (hm : m < h.r.g.m) (hk : b.k < 1099511625000) :
    Ct Tryz.prog 78 [PP gs, PP gh, PlV n m] [ShC gs h.r.g s, huC gh gb h, BenC gb b] (fun v L => ∃ s' h' b', L = [ShC gs h.r.g s', huC gh gb h', BenC gb b'] ∧ HS 1200 h b h' b' ∧ ShRdQ s h b n m s' h' b' v) := by
  refine w_ct Tryz.func78 rfl Tryz.ntmps78 rfl fun w B => ?_
  have h122 := f122 (gh := gh) (gb := gb) (h := h)
  have h126 := f126 (gh := gh) (gb := gb) hh hn hm hk
  have h125 := f125 (gs := gs) (s := s) (k := n) hh.ok.ge
  have hm16 := hh.ok.ge.m16
  refine g_ex rfl Sel.hd fun ⟨gl, gm, mp⟩ => ?_
  refine g_pure rfl Sel.hd fun ho => ?_
  have h116 := f116 (gs := gs) (g := h.r.g) (gl := gl) (gm := gm)
  have h123 := f123 (gs := gs) (g := h.r.g) (gl := gl) (gm := gm) hn hm
  refine W2 fun g5 g6 => ?_
  refine cv h116 ?_
  refine W ?_
  refine cv h122 ?_
  refine W ?_
  rw [decide_eq_false (show ¬ ((h.id : Nat) : Int) = 0 by omega)]
  refine W ?_
  refine cv h123 ?_
  refine W ?_
  have h124 := f124s (k := n) ho hm hm16
  refine w_dag [.q 0, .q 1, .q 2, .q 3, .q 4, .q 5, .q 6, .q 7, .q 8, .q 9, .q 10, .q 11, .q 12, .f 13, .a 13, .m 14 [12], .q 15] (by decide +kernel) ?_
  refine W ?_
  refine w_dgq rfl rfl (fun E => qn rfl (y_lk0 rfl rfl mem_)) ?_
  refine W ?_
  refine dq h124 ?_
  cases hkn : (s.F n).kn m
  · refine W1 fun g8 => ?_
    refine cl' h126 ?_
    rintro _ _ ⟨h', b', rfl, h1, hc⟩
    rcases hc with ⟨x, rfl, hc⟩ | ⟨rfl, hc⟩
    · refine W1 fun g10 => ?_
      refine g_ent rfl (show Ent _ [ShC gs h.r.g s, huC gh gb h', BenC gb b', cl g5 [I n, I m] 120, cl g6 (bl blk0) 51, cl g10 (bl x) 51] from ent_ex (gl, gm, mp) (ent_pur ho ent_)) ?_
      refine cl' h125 ?_
      rintro _ _ (⟨t, gy, rfl, rfl, ht⟩ | ⟨rfl, rfl, ht⟩)
      · have h127 := f127 (g := gy) (l := t.F n) (i := m) (x := x) (by rw [ht.m ho.ln]; exact hm) (by rw [ht.m ho.ln]; exact hm16)
        refine W ?_
        refine cl' h127 ?_
        rintro _ _ ⟨rfl, rfl⟩
        refine W ?_
        refine finE ⟨_, rfl, { t with F := fset t.F n ((t.F n).learn m x) }, h', b', rfl, h1, .inr ⟨hkn, .inl ⟨x, rfl, hc⟩, .inl ⟨x, rfl, .inl ⟨t, ht, rfl⟩⟩⟩⟩ ?_
        refine Ent.trans (Ent.sel (sel_ : Sel (lnC gy ((t.F n).learn m x)) _ _) (Ent.sel (sel_ : Sel (ShR gs h.r.g t n gy) _ _) (Ent.refl _))) ?_
        exact (ent_shr (by rw [Ln.learn_m]; exact ht.m ho.ln n)).trans (Ent.cons _ ent_)
      · refine W ?_
        exact fin ⟨_, rfl, s, h', b', rfl, h1, .inr ⟨hkn, .inl ⟨x, rfl, hc⟩, .inl ⟨x, rfl, .inr rfl⟩⟩⟩
    · refine W1 fun g10 => ?_
      exact finE ⟨_, rfl, s, h', b', rfl, h1, .inr ⟨hkn, .inr ⟨rfl, hc⟩, .inr ⟨rfl, rfl⟩⟩⟩ (ent_ex (gl, gm, mp) (ent_pur ho ent_))
  · refine W1 fun g8 => ?_
    refine g_ent rfl (show Ent _ [ShC gs h.r.g s, huC gh gb h, BenC gb b, cl g5 [I n, I m] 120, cl g6 (bl blk0) 51, cl g8 (bl ((s.F n).bs m)) 51] from ent_ex (gl, gm, mp) (ent_pur ho ent_)) ?_
    refine cl' h125 ?_
    rintro _ _ (⟨t, gy, rfl, rfl, ht⟩ | ⟨rfl, rfl, ht⟩)
    · refine W ?_
      refine finE ⟨_, rfl, t, h, b, rfl, .refl hh, .inl ⟨hkn, rfl, rfl, rfl, .inl ht⟩⟩ ?_
      refine Ent.trans (Ent.sel (sel_ : Sel (lnC gy (t.F n)) _ _) (Ent.sel (sel_ : Sel (ShR gs h.r.g t n gy) _ _) (Ent.refl _))) ?_
      exact (ent_shr0 (ht.m ho.ln n)).trans (Ent.cons _ ent_)
    · refine W ?_
      exact fin ⟨_, rfl, s, h, b, rfl, .refl hh, .inl ⟨hkn, rfl, rfl, rfl, .inr rfl⟩⟩
end
end Go.Proofs.YtnilejkfbcnkkaaGreatDoor.V
end
