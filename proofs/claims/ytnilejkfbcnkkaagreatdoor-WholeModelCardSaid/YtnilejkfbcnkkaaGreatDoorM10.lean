/- Proved: what the hull's small functions do, and how a superblock is put; how a superblock is put, and all of them; what is done of each member, and how all superblocks are saved; how all superblocks are saved, and what a dead member comes to; the conditions stand in the statements. -/
import Derived.Test.YtnilejkfbcnkkaaGreatDoorM09
set_option linter.unusedVariables false
set_option linter.unusedSimpArgs false
set_option linter.unusedSectionVars false
section
set_option maxRecDepth 100000
set_option maxHeartbeats 4000000
namespace Go.Proofs.YtnilejkfbcnkkaaGreatDoor.V
open Go Go.RowKit
attribute [local irreducible] Yields cl blk pur rowc sv exC fo

structure Hul where
  id : Nat
  ev : Int
  r : Ros
abbrev huL (gb : Nat) (h : Hul) : List Value := PP gb :: U h.id :: .int .u64 h.ev :: roL h.r
abbrev huC (gh gb : Nat) (h : Hul) : Chunk := cl gh (huL gb h) 114
theorem huAt {gb : Nat} {h : Hul} {j : Nat} (hj : j < 16) : (huL gb h)[6 + (j : Int).toNat * 1]? = some (u8 (h.r.st j)) := by
  match j, hj with
  | 0, _ | 1, _ | 2, _ | 3, _ | 4, _ | 5, _ | 6, _ | 7, _ | 8, _ | 9, _ | 10, _ | 11, _ | 12, _ | 13, _ | 14, _ | 15, _ => rfl
  | j + 16, h => omega

def Ben.dead (b : Ben) (j : Nat) : Bool := match b.ds[j]? with | some dv => dv.dead | none => false
theorem Ben.dead_eq {b : Ben} {j : Nat} {dv : Dev} (h : b.ds[j]? = some dv) : b.dead j = dv.dead := by unfold Ben.dead; rw [h]
/-- members lost, all of them dead -/
structure RE (D : Nat → Bool) (r r' : Ros) : Prop where
  g : r'.g = r.g
  gone : r'.gone = r.gone
  ok : RosOk r'
  st : ∀ j, r'.st j = r.st j ∨ (j < r.g.m ∧ D j = true ∧ r'.st j = 1)
  cur : r'.cur = r.cur ∨ (r'.cur = 0 ∧ ∀ j, j < 16 → r'.st j ≠ 2)
/-- no member is dead and not known to be -/
def Ros.settled (r : Ros) (D : Nat → Bool) : Prop := ∀ j, j < r.g.m → D j = true → r.st j = 1
theorem RE.refl {D : Nat → Bool} {r : Ros} (h : RosOk r) : RE D r r := ⟨rfl, rfl, h, fun _ => .inl rfl, .inl rfl⟩
theorem RE.trans {D : Nat → Bool} {r r' r'' : Ros} (h : RE D r r') (h' : RE D r' r'') : RE D r r'' := by
  refine ⟨h'.g.trans h.g, h'.gone.trans h.gone, h'.ok, fun j => ?_, ?_⟩
  · rcases h'.st j with e | ⟨e1, e2, e3⟩
    · rcases h.st j with f | ⟨f1, f2, f3⟩
      · exact .inl (e.trans f)
      · exact .inr ⟨f1, f2, e.trans f3⟩
    · exact .inr ⟨by rw [← h.g]; exact e1, e2, e3⟩
  · rcases h'.cur with e | ⟨e1, e2⟩
    · rcases h.cur with f | ⟨f1, f2⟩
      · exact .inl (e.trans f)
      · refine .inr ⟨e.trans f1, fun j hj hs => ?_⟩
        rcases h'.st j with g | ⟨_, _, g⟩
        · exact f2 j hj (g ▸ hs)
        · omega
    · exact .inr ⟨e1, e2⟩
theorem cnt_set {st : Nat → Nat} {k m s : Nat} : ∀ {n : Nat}, m < n → cnt (fun i => if i = m then s else st i) k n + (if st m = k then 1 else 0) = cnt st k n + (if s = k then 1 else 0)
  | 0, h => by omega
  | n + 1, h => by
    simp only [cnt]
    by_cases e : n = m
    · subst e
      have : ∀ n', n' ≤ n → cnt (fun i => if i = n then s else st i) k n' = cnt st k n' := by
        intro n'
        induction n' with
        | zero => intro _; rfl
        | succ n' ih => intro h'; simp only [cnt]; rw [ih (by omega)]; simp [show ¬ n' = n by omega]
      rw [this n (Nat.le_refl _)]; simp only [if_true]; omega
    · have := cnt_set (st := st) (k := k) (m := m) (s := s) (n := n) (by omega)
      simp only [e, if_false]; omega
theorem cnt_zero {st : Nat → Nat} {k : Nat} : ∀ {n : Nat}, cnt st k n = 0 → ∀ j, j < n → st j ≠ k
  | 0, _, j, hj => by omega
  | n + 1, h, j, hj => by
    simp only [cnt] at h
    by_cases e : j = n
    · subst e; intro e; rw [if_pos e] at h; omega
    · exact cnt_zero (n := n) (by omega) j (by omega)
def Ros.lose (r : Ros) (m : Nat) : Ros := { r.set m 1 with cur := if r.st m = 2 then 0 else r.cur }
theorem RE.lose {D : Nat → Bool} {r : Ros} (h : RosOk r) {m : Nat} (hm : m < r.g.m) (hD : D m = true) : RE D r (r.lose m) := by
  have h16 := h.ge.m16
  have hc := cnt_set (st := r.st) (k := 2) (m := m) (s := 1) (n := 16) (by omega)
  rw [if_neg (show ¬ (1 : Nat) = 2 by omega)] at hc
  have hcur := h.cur
  have hs1 := h.ge.s1
  refine ⟨rfl, rfl, ⟨h.ge, ?_, fun j hj => ?_, fun j hj hj' => ?_, ?_⟩, fun j => ?_, ?_⟩
  · show (if r.st m = 2 then 0 else r.cur) < r.g.s
    split <;> omega
  · show (if j = m then 1 else r.st j) ≤ 2
    have := h.lo j hj
    split <;> omega
  · show (if j = m then 1 else r.st j) = 0
    have hj : r.g.m ≤ j := hj
    rw [if_neg (by omega)]; exact h.hi j hj hj'
  · show cnt (fun i => if i = m then 1 else r.st i) 2 16 = 1 ∨ (cnt (fun i => if i = m then 1 else r.st i) 2 16 = 0 ∧ (if r.st m = 2 then 0 else r.cur) = 0)
    rcases h.one with e | ⟨e, e'⟩
    · by_cases e2 : r.st m = 2
      · rw [if_pos e2] at hc ⊢; right; exact ⟨by omega, rfl⟩
      · rw [if_neg e2] at hc; left; omega
    · right
      refine ⟨by omega, ?_⟩
      split <;> omega
  · show (if j = m then 1 else r.st j) = r.st j ∨ _
    by_cases e : j = m
    · subst e; exact .inr ⟨hm, hD, by show (if j = j then 1 else r.st j) = 1; rw [if_pos rfl]⟩
    · rw [if_neg e]; exact .inl rfl
  · show (if r.st m = 2 then 0 else r.cur) = r.cur ∨ _
    by_cases e2 : r.st m = 2
    · refine .inr ⟨by show (if r.st m = 2 then 0 else r.cur) = 0; rw [if_pos e2], fun j hj => ?_⟩
      rw [if_pos e2] at hc
      exact cnt_zero (n := 16) (by rcases h.one with e | ⟨e, _⟩ <;> (show cnt (fun i => if i = m then 1 else r.st i) 2 16 = 0; omega)) j hj
    · rw [if_neg e2]; exact .inl rfl
theorem cnt_lose {r : Ros} {m : Nat} (hm : m < 16) (h1 : r.st m ≠ 1) : cnt (r.lose m).st 1 16 = cnt r.st 1 16 + 1 := by
  have hc := cnt_set (st := r.st) (k := 1) (m := m) (s := 1) (n := 16) hm
  rw [if_neg h1, if_pos rfl] at hc
  show cnt (fun i => if i = m then 1 else r.st i) 1 16 = _
  omega
/-- the bench has turned, but nothing of what the array keeps -/
structure BE (m c : Nat) (b b' : Ben) : Prop where
  len : b'.ds.length = b.ds.length
  dv : ∀ i dv, b.ds[i]? = some dv → ∃ dv', b'.ds[i]? = some dv' ∧ dv'.n = dv.n ∧ dv'.dead = dv.dead ∧ (i < m → ∀ s, 2 ≤ s → dv'.rd s = dv.rd s)
  k1 : b.k ≤ b'.k
  k2 : b'.k ≤ b.k + c
theorem BE.refl {m c : Nat} {b : Ben} : BE m c b b := ⟨rfl, fun _ dv h => ⟨dv, h, rfl, rfl, fun _ _ _ => rfl⟩, Nat.le_refl _, by omega⟩
theorem BE.trans {m c c' : Nat} {b b' b'' : Ben} (h : BE m c b b') (h' : BE m c' b' b'') : BE m (c + c') b b'' := by
  refine ⟨h'.len.trans h.len, fun i dv hd => ?_, by have := h.k1; have := h'.k1; omega, by have := h.k2; have := h'.k2; omega⟩
  obtain ⟨dv1, h1, h2, h3, h4⟩ := h.dv i dv hd
  obtain ⟨dv2, g1, g2, g3, g4⟩ := h'.dv i dv1 h1
  exact ⟨dv2, g1, g2.trans h2, g3.trans h3, fun hi s hs => (g4 hi s hs).trans (h4 hi s hs)⟩
theorem BE.mono {m c c' : Nat} {b b' : Ben} (h : BE m c b b') (hc : c ≤ c') : BE m c' b b' := ⟨h.len, h.dv, h.k1, by have := h.k2; omega⟩
theorem BE.dead {m c : Nat} {b b' : Ben} (h : BE m c b b') : b'.dead = b.dead := by
  funext j
  unfold Ben.dead
  cases e : b.ds[j]? with
  | none =>
    have : b'.ds[j]? = none := by rw [List.getElem?_eq_none_iff] at e ⊢; rw [h.len]; exact e
    rw [this]
  | some dv =>
    obtain ⟨dv', h1, _, h3, _⟩ := h.dv j dv e
    rw [h1]; exact h3
theorem BE.set {m j n k : Nat} {b : Ben} {dv : Dev} (hd : b.ds[j]? = some dv) (hn : n ≤ 1) {x : Blk} : BE m k b ⟨b.ds.set j (dv.set n x), b.k + k⟩ := by
  refine ⟨by simp, fun i dv' hi => ?_, by show b.k ≤ b.k + k; omega, Nat.le_refl _⟩
  by_cases e : i = j
  · subst e
    have hl := (List.getElem?_eq_some_iff.1 hd).1
    rw [hd] at hi
    cases hi
    exact ⟨dv.set n x, by simp [hl], rfl, rfl, fun _ s hs => by unfold Dev.set; show (if s = n then x else dv.rd s) = dv.rd s; rw [if_neg (by omega)]⟩
  · exact ⟨dv', by show (b.ds.set j (dv.set n x))[i]? = _; rw [List.getElem?_set_ne (Ne.symm e)]; exact hi, rfl, rfl, fun _ _ _ => rfl⟩
/-- what a hull and its bench keep -/
structure HB (h : Hul) (b : Ben) : Prop where
  ok : RosOk h.r
  len : b.ds.length = h.r.g.m + 1
  n : ∀ j dv, j < h.r.g.m → b.ds[j]? = some dv → 2 + h.r.g.s ≤ dv.n
structure HS (c : Nat) (h : Hul) (b : Ben) (h' : Hul) (b' : Ben) : Prop where
  id : h'.id = h.id
  re : RE b.dead h.r h'.r
  be : BE h.r.g.m c b b'
theorem HB.st {c : Nat} {h h' : Hul} {b b' : Ben} (hh : HB h b) (hs : HS c h b h' b') : HB h' b' := by
  refine ⟨hs.re.ok, by rw [hs.be.len, hs.re.g]; exact hh.len, fun j dv hj hd => ?_⟩
  rw [hs.re.g] at hj ⊢
  have hl := (List.getElem?_eq_some_iff.1 hd).1
  rw [hs.be.len] at hl
  obtain ⟨dv', h1, h2, _⟩ := hs.be.dv j _ (List.getElem?_eq_getElem hl)
  rw [hd] at h1
  cases h1
  rw [h2]
  exact hh.n j _ hj (List.getElem?_eq_getElem hl)
theorem HB.dv {h : Hul} {b : Ben} (hh : HB h b) {j : Nat} (hj : j ≤ h.r.g.m) : ∃ dv, b.ds[j]? = some dv := ⟨_, List.getElem?_eq_getElem (by have := hh.len; omega)⟩
theorem HS.refl {c : Nat} {h : Hul} {b : Ben} (hh : HB h b) : HS c h b h b := ⟨rfl, .refl hh.ok, .refl⟩
theorem HS.trans {c c' : Nat} {h h' h'' : Hul} {b b' b'' : Ben} (s : HS c h b h' b') (s' : HS c' h' b' h'' b'') : HS (c + c') h b h'' b'' :=
  ⟨s'.id.trans s.id, s.re.trans (s.be.dead ▸ s'.re), s.be.trans (s.re.g ▸ s'.be)⟩
theorem HS.mono {c c' : Nat} {h h' : Hul} {b b' : Ben} (s : HS c h b h' b') (hc : c ≤ c') : HS c' h b h' b' := ⟨s.id, s.re, s.be.mono hc⟩

section
variable {gh gb : Nat} {h : Hul} {b : Ben}
theorem f69 : CtV Tryz.prog 69 [PP gh] [huC gh gb h] (.bool false) := by
  refine w_ct Tryz.func69 rfl Tryz.ntmps69 rfl fun w B => ?_
  refine W ?_
  exact fin ⟨_, rfl, rfl, rfl⟩
theorem f39 (hr : RosOk h.r) : CtV Tryz.prog 39 [PP gh] [huC gh gb h] (I h.r.state) := by
  refine w_ct Tryz.func39 rfl Tryz.ntmps39 rfl fun w B => ?_
  have h69 := f69 (gh := gh) (gb := gb) (h := h)
  refine W ?_
  refine cv h69 ?_
  refine W ?_
  refine cv (f70 hr) ?_
  refine W ?_
  exact fin ⟨_, rfl, rfl, rfl⟩
theorem f41 : CtV Tryz.prog 41 [PP gh] [huC gh gb h] (RV h.r) := by
  refine w_ct Tryz.func41 rfl Tryz.ntmps41 rfl fun w B => ?_
  have h69 := f69 (gh := gh) (gb := gb) (h := h)
  refine W1 fun g2 => ?_
  refine cv h69 ?_
  refine W ?_
  exact fin ⟨_, rfl, rfl, rfl⟩
theorem f65 : CtV Tryz.prog 65 [PP gh] [huC gh gb h] (.int .u64 h.ev) := by
  refine w_ct Tryz.func65 rfl Tryz.ntmps65 rfl fun w B => ?_
  have h69 := f69 (gh := gh) (gb := gb) (h := h)
  refine W ?_
  refine cv h69 ?_
  refine W ?_
  exact fin ⟨_, rfl, rfl, rfl⟩
theorem f122 : CtV Tryz.prog 122 [PP gh] [huC gh gb h] (U h.id) := by
  refine w_ct Tryz.func122 rfl Tryz.ntmps122 rfl fun w B => ?_
  have h69 := f69 (gh := gh) (gb := gb) (h := h)
  refine W ?_
  refine cv h69 ?_
  refine W ?_
  exact fin ⟨_, rfl, rfl, rfl⟩
theorem f159 (hr : RosOk h.r) : CtV Tryz.prog 159 [PP gh] [huC gh gb h] (if h.r.state = 5 then I 16 else I 0) := by
  refine w_ct Tryz.func159 rfl Tryz.ntmps159 rfl fun w B => ?_
  refine W ?_
  refine cv (f70 hr) ?_
  refine W ?_
  by_cases e : h.r.state = 5
  · rw [decide_eq_true (show (h.r.state : Int) = 5 by omega), if_pos e]
    refine W ?_
    exact fin ⟨_, rfl, rfl, rfl⟩
  · rw [decide_eq_false (show ¬ (h.r.state : Int) = 5 by omega), if_neg e]
    refine W ?_
    exact fin ⟨_, rfl, rfl, rfl⟩
theorem f195 {j : Nat} {dv : Dev} (hd : b.ds[j]? = some dv) (hn : 2 ≤ dv.n) : Ct Tryz.prog 195 [PP gh, I j] [huC gh gb h, BenC gb b] (fun v L => L = [huC gh gb h, BenC gb b] ∧ ((dv.dead = true ∧ v = T [I 0, I 9]) ∨ (dv.dead = false ∧ ∃ n : Nat, n ≤ 1 ∧ v = T [I n, I 0]))) := by
  refine w_ct Tryz.func195 rfl Tryz.ntmps195 rfl fun w B => ?_
  have h0 := f187 (gb := gb) (i := 0) hd (by omega)
  have h1 := f187 (gb := gb) (i := 1) hd (by omega)
  refine W ?_
  refine cv h0 ?_
  cases e : dv.dead
  · rw [e] at h1
    refine W1 fun g6 => ?_
    refine cv h1 ?_
    refine W1 fun g8 => ?_
    refine cl' (f240 (x := dv.rd 0) (y := dv.rd 1)) ?_
    rintro _ _ ⟨⟨n, hn1, rfl⟩, rfl⟩
    refine W ?_
    exact fin ⟨_, rfl, rfl, .inr ⟨rfl, n, hn1, rfl⟩⟩
  · refine W1 fun g6 => ?_
    exact fin ⟨_, rfl, rfl, .inl ⟨rfl, rfl⟩⟩
end
end Go.Proofs.YtnilejkfbcnkkaaGreatDoor.V
end
section
set_option maxRecDepth 100000
set_option maxHeartbeats 4000000
namespace Go.Proofs.YtnilejkfbcnkkaaGreatDoor.V
open Go Go.RowKit
attribute [local irreducible] Yields cl blk pur rowc sv exC fo

theorem b244 {id : Nat} {j : Int} {r : Ros} : Tryz.prog.built 244 [(0, U id), (1, .int .i64 j), (2, RV r)] = some (U id :: .int .i64 j :: roL r).toArray := by
  unfold Program.built; simp only [Tryz.underlying244]; kernel_rfl
section
variable {gh gb : Nat} {h : Hul} {b : Ben}
theorem f139 (hr : RosOk h.r) {j : Nat} {dv : Dev} (hd : b.ds[j]? = some dv) (hn : 2 ≤ dv.n) (hk : b.k < 1099511627000) : Ct Tryz.prog 139 [PP gh, I j] [huC gh gb h, BenC gb b] (fun v L => (dv.dead = true ∧ v = I 9 ∧ L = [huC gh gb h, BenC gb b]) ∨ (dv.dead = false ∧ v = I 0 ∧ ∃ n x, n ≤ 1 ∧ L = [huC gh gb h, BenC gb ⟨b.ds.set j (dv.set n x), b.k + 2⟩])) := by
  refine w_ct Tryz.func139 rfl Tryz.ntmps139 rfl fun w B => ?_
  have h195 := f195 (gh := gh) (gb := gb) (h := h) hd hn
  refine W ?_
  refine cl' h195 ?_
  rintro _ _ ⟨rfl, (⟨e, rfl⟩ | ⟨e, n, hn1, rfl⟩)⟩
  · refine W ?_
    exact fin ⟨_, rfl, .inl ⟨e, rfl, rfl⟩⟩
  · refine W ?_
    refine w_dag [.q 0, .q 1, .q 2, .q 3, .q 4, .q 5, .q 6, .q 7, .q 8, .q 9, .q 10, .q 11, .q 12, .q 13, .f 18, .m 14 [], .q 15, .q 16, .q 17, .a 18, .m 19 [17], .q 20] (by decide +kernel) ?_
    iterate 13 (refine w_dgq (by rfl) (by rfl) (fun E => qy_) ?_)
    refine w_dgq rfl rfl (fun E => qn rfl (y_build (ps := [(0, U h.id), (1, I j), (2, RV h.r)]) (c := (U h.id :: I j :: roL h.r).toArray) (by rw [Array.toList_map]; exact pts_) b244)) ?_
    refine W ?_
    refine dm fun E => ?_
    refine cl' (f196 (n := h.ev) (id := h.id) (self := j) hr) ?_
    rintro _ _ ⟨⟨x, ex, rfl⟩, rfl⟩
    refine W1 fun g7 => ?_
    have h129 := f129 (gb := gb) (b := b) (d := j) (i := n) (x := x) hd (by omega) (by omega)
    refine cl' h129 ?_
    rintro _ _ (⟨e', rfl, rfl⟩ | ⟨e', rfl, rfl⟩)
    · rw [e] at e'; cases e'
    · have hl := (List.getElem?_eq_some_iff.1 hd).1
      have h130 := f130 (gb := gb) (b := ⟨b.ds.set j (dv.set n x), b.k + 1⟩) (d := j) (dv := dv.set n x) (by simp [hl]) (by show b.k + 1 < _; omega) (by show 0 < dv.n; omega)
      refine W ?_
      refine cl' h130 ?_
      rintro _ _ (⟨e'', rfl, rfl⟩ | ⟨e'', rfl, rfl⟩)
      · rw [show (dv.set n x).dead = dv.dead from rfl, e] at e''; cases e''
      · refine W ?_
        exact fin ⟨_, rfl, .inr ⟨e, rfl, n, x, hn1, rfl⟩⟩
end
end Go.Proofs.YtnilejkfbcnkkaaGreatDoor.V
end
section
set_option maxRecDepth 100000
set_option maxHeartbeats 4000000
namespace Go.Proofs.YtnilejkfbcnkkaaGreatDoor.V
open Go Go.RowKit
attribute [local irreducible] Yields cl blk pur rowc sv exC fo

theorem huSet {gb : Nat} {h : Hul} {r : Ros} : Sets (huL gb h) 3 (roL r) (huL gb { h with r := r }) := sets_
section
variable {gh gb : Nat}
theorem f137 {σ : Type} {hH : σ → Hul} {HP : σ → Hp} {J : Nat → σ → Prop} {X : Int → σ → Prop} {f M : Nat} {fs cs : List Value} (hb : BD Tryz.prog f) (hM : M ≤ 16) (hJ : ∀ s, J 0 s → (hH s).r.g.m = M)
    (skip : ∀ j s, j < M → J j s → (hH s).r.st j = 1 → J (j + 1) s)
    (step : ∀ j s, j < M → J j s → (hH s).r.st j ≠ 1 → Ct Tryz.prog f (fs ++ [I j] ++ cs) (huC gh gb (hH s) :: HP s) (fun v L => ∃ s', L = huC gh gb (hH s') :: HP s' ∧ ((v = I 0 ∧ J (j + 1) s') ∨ ∃ e : Int, e ≠ 0 ∧ v = .int .i64 e ∧ X e s')))
    {s0 : σ} (h0 : J 0 s0) : Ct Tryz.prog 137 [PP gh, .func (.func f) fs.toArray cs.toArray] (huC gh gb (hH s0) :: HP s0) (fun v L => ∃ s', L = huC gh gb (hH s') :: HP s' ∧ ((v = I 0 ∧ J M s') ∨ ∃ e : Int, e ≠ 0 ∧ v = .int .i64 e ∧ X e s')) := by
  refine w_ct Tryz.func137 rfl Tryz.ntmps137 rfl fun w B => ?_
  refine W ?_
  rw [hJ s0 h0]
  refine w_loop (γ := Nat × σ) (fun ⟨j, s⟩ => [(0, PP gh), (1, .func (.func f) fs.toArray cs.toArray), (12, I M), (13, I j)]) (fun ⟨j, s⟩ => huC gh gb (hH s) :: HP s) (fun x => x.1 ≤ M ∧ J x.1 x.2) (fun x => M - x.1) (0, s0) sl_ ent_ ⟨Nat.zero_le _, h0⟩ fun ⟨j, s⟩ B ⟨hj, hJ'⟩ => ?_
  dsimp only at hj hJ' ⊢
  refine W ?_
  refine w_if rfl (fun h => ?_) (fun h => ?_)
  · have hlt : j < M := by omega
    refine w_skip ?_
    refine W ?_
    refine w_y rfl rfl rfl (y_ld1 rfl mem_ (huAt (j := j) (by omega))) ?_
    refine W ?_
    refine w_if rfl (fun h' => ?_) (fun h' => ?_)
    · refine W ?_
      exact w_land rfl (w_round (j + 1, s) ⟨hlt, skip j s hlt hJ' (by omega)⟩ (by show M - (j + 1) < M - j; omega) sl_ ent_)
    · have hc := step j s hlt hJ' (by omega)
      refine W ?_
      refine cx (hb := hb) (K := []) hc ?_ (hp := by unfold Pick; rw [List.append_nil])
      rintro _ _ ⟨s', rfl, (⟨rfl, h2⟩ | ⟨e, he, rfl, h2⟩)⟩
      · refine W ?_
        exact w_land rfl (w_round (j + 1, s') ⟨hlt, h2⟩ (by show M - (j + 1) < M - j; omega) sl_ (by rw [List.append_nil]; exact .refl _))
      · refine W ?_
        rw [decide_eq_true (show e ≠ 0 from he)]
        refine W ?_
        exact finE ⟨_, rfl, s', rfl, .inr ⟨e, he, rfl, h2⟩⟩ (by rw [List.append_nil]; exact .refl _)
  · have hjj : j = M := by omega
    subst hjj
    refine W ?_
    exact finE ⟨_, rfl, s, rfl, .inl ⟨rfl, hJ'⟩⟩ ent_
theorem f138 {h : Hul} {b : Ben} {j g1 g2 : Nat} {a : Bool} {dv : Dev} (hr : RosOk h.r) (hj : j < h.r.g.m) (hd : b.ds[j]? = some dv) (hn : 2 ≤ dv.n) (hk : b.k < 1099511627000) :
    Ct Tryz.prog 138 [I j, PP g1, PP g2] [huC gh gb h, cl g1 [PP gh] 83, cl g2 [.bool a] 4, BenC gb b] (fun v L => (dv.dead = true ∧ v = I 9 ∧ L = [huC gh gb { h with r := h.r.lose j }, cl g1 [PP gh] 83, cl g2 [.bool true] 4, BenC gb b]) ∨ (dv.dead = false ∧ v = I 0 ∧ ∃ n x, n ≤ 1 ∧ L = [huC gh gb h, cl g1 [PP gh] 83, cl g2 [.bool a] 4, BenC gb ⟨b.ds.set j (dv.set n x), b.k + 2⟩])) := by
  refine w_ct Tryz.func138 rfl Tryz.ntmps138 rfl fun w B => ?_
  have h139 := f139 (gh := gh) (gb := gb) hr hd hn hk
  have h140 : CtV Tryz.prog 140 [RV h.r, I j] [] (T [RV (h.r.lose j), .bool (decide (h.r.st j ≠ 1))]) := f140 hr hj
  refine W ?_
  refine cl' h139 ?_
  rintro _ _ (⟨e, rfl, rfl⟩ | ⟨e, rfl, n, x, hn1, rfl⟩)
  · refine W ?_
    refine w_dag [.q 0, .q 1, .q 2, .q 3, .q 4, .q 5, .m 6 [0], .q 7, .q 8, .q 9, .q 10, .q 11, .m 12 [9]] (by decide +kernel) ?_
    refine W ?_
    refine dm fun E => ?_
    refine cv h140 ?_
    refine W ?_
    refine dm fun E => ?_
    refine w_stN rfl rfl inferInstance inferInstance upd_ huSet ?_
    refine W ?_
    exact fin ⟨_, rfl, .inl ⟨e, rfl, rfl⟩⟩
  · refine W ?_
    exact fin ⟨_, rfl, .inr ⟨e, rfl, n, x, hn1, rfl⟩⟩
end
end Go.Proofs.YtnilejkfbcnkkaaGreatDoor.V
end
section
set_option maxRecDepth 100000
set_option maxHeartbeats 4000000
namespace Go.Proofs.YtnilejkfbcnkkaaGreatDoor.V
open Go Go.RowKit
attribute [local irreducible] Yields cl blk pur rowc sv exC fo cnt

theorem HB.dvn {h : Hul} {b : Ben} (hh : HB h b) {j : Nat} (hj : j < h.r.g.m) : ∃ dv, b.ds[j]? = some dv ∧ 2 + h.r.g.s ≤ dv.n := by
  obtain ⟨dv, hd⟩ := hh.dv (j := j) (by omega)
  exact ⟨dv, hd, hh.n j dv hj hd⟩
theorem HS.put {h : Hul} {b : Ben} (hh : HB h b) {j n : Nat} {dv : Dev} {x : Blk} (hd : b.ds[j]? = some dv) (hn : n ≤ 1) : HS 2 h b h ⟨b.ds.set j (dv.set n x), b.k + 2⟩ := ⟨rfl, .refl hh.ok, .set hd hn⟩
theorem HS.lose {c : Nat} {h : Hul} {b : Ben} (hh : HB h b) {j : Nat} (hj : j < h.r.g.m) (hd : b.dead j = true) : HS c h b { h with r := h.r.lose j } b := ⟨rfl, .lose hh.ok hj hd, .refl⟩
theorem HS.ev {c : Nat} {h h' : Hul} {b b' : Ben} (hs : HS c h b h' b') (e : Int) : HS c h b { h' with ev := e } b' := ⟨hs.id, hs.re, hs.be⟩
theorem HB.ev {h : Hul} {b : Ben} (hs : HB h b) (e : Int) : HB { h with ev := e } b := ⟨hs.ok, hs.len, hs.n⟩
section
variable {gh gb g1 g2 : Nat}
theorem f137s {h : Hul} {b : Ben} (hh : HB h b) (hk : b.k < 1099511626900) :
    Ct Tryz.prog 137 [PP gh, .func (.func 138) #[] #[PP g1, PP g2]] [huC gh gb h, cl g1 [PP gh] 83, cl g2 [.bool false] 4, BenC gb b] (fun v L => ∃ a h' b', L = [huC gh gb h', cl g1 [PP gh] 83, cl g2 [.bool a] 4, BenC gb b'] ∧ HS 32 h b h' b' ∧ ((v = I 0 ∧ a = false ∧ h' = h ∧ h'.r.settled b.dead) ∨ (v = I 9 ∧ a = true ∧ cnt h.r.st 1 16 < cnt h'.r.st 1 16))) := by
  have h16 := hh.ok.ge.m16
  refine Ct.ent (f137 (gh := gh) (gb := gb) (σ := Bool × Hul × Ben) (hH := fun s => s.2.1) (HP := fun s => [cl g1 [PP gh] 83, cl g2 [.bool s.1] 4, BenC gb s.2.2]) (f := 138) (fs := []) (cs := [PP g1, PP g2]) (M := h.r.g.m)
    (J := fun j s => s.1 = false ∧ s.2.1 = h ∧ HS (2 * j) h b h s.2.2 ∧ ∀ i, i < j → b.dead i = true → h.r.st i = 1)
    (X := fun e s => e = 9 ∧ s.1 = true ∧ HS 32 h b s.2.1 s.2.2 ∧ cnt h.r.st 1 16 < cnt s.2.1.r.st 1 16) inferInstance h16 ?_ ?_ ?_ (s0 := (false, h, b)) ⟨rfl, rfl, .refl hh, fun i hi => by omega⟩) ?_
  · rintro ⟨a, h', b'⟩ ⟨rfl, rfl, _, _⟩; rfl
  · rintro j ⟨a, h', b'⟩ hj ⟨rfl, rfl, h1, h2⟩ hs
    exact ⟨rfl, rfl, h1.mono (by omega), fun i hi hd => by
      by_cases e : i = j
      · subst e; exact hs
      · exact h2 i (by omega) hd⟩
  · rintro j ⟨a, h', b'⟩ hj ⟨rfl, rfl, h1, h2⟩ hs
    dsimp only at h1 hs hj h16 ⊢
    have hh' := hh.st h1
    obtain ⟨dv, hd, hn⟩ := hh'.dvn hj
    have hk2 := h1.be.k2
    refine Ct.ent (f138 (gh := gh) (gb := gb) (g1 := g1) (g2 := g2) (a := false) hh'.ok hj hd (by omega) (by omega)) ?_
    rintro _ _ (⟨e, rfl, rfl⟩ | ⟨e, rfl, n, x, hn1, rfl⟩)
    · refine ⟨_, ⟨(true, { h' with r := h'.r.lose j }, b'), rfl, .inr ⟨9, by decide, rfl, rfl, rfl, ?_, ?_⟩⟩, ent_⟩
      · exact (h1.trans (HS.lose (c := 0) hh' hj (by rw [Ben.dead_eq hd]; exact e))).mono (by omega)
      · show _ < cnt (h'.r.lose j).st 1 16
        rw [cnt_lose (by omega) hs]; omega
    · refine ⟨_, ⟨(false, h', _), rfl, .inl ⟨rfl, rfl, rfl, (h1.trans (HS.put hh' (x := x) hd hn1)).mono (by omega), fun i hi hdi => ?_⟩⟩, ent_⟩
      by_cases e' : i = j
      · subst e'
        rw [← h1.be.dead, Ben.dead_eq hd, e] at hdi
        cases hdi
      · exact h2 i (by omega) hdi
  · rintro v _ ⟨⟨a, h', b'⟩, rfl, (⟨rfl, rfl, rfl, h1, h2⟩ | ⟨_, _, rfl, rfl, rfl, h1, h2⟩)⟩
    · exact ⟨_, ⟨false, h', b', rfl, h1.mono (by omega), .inl ⟨rfl, rfl, rfl, h2⟩⟩, ent_⟩
    · exact ⟨_, ⟨true, h', b', rfl, h1, .inr ⟨rfl, rfl, h2⟩⟩, ent_⟩
theorem f88 {h : Hul} {b : Ben} (hh : HB h b) (hk : b.k < 1099511626000) :
    Ct Tryz.prog 88 [PP gh] [huC gh gb h, BenC gb b] (fun v L => ∃ h' b', v = I 0 ∧ L = [huC gh gb h', BenC gb b'] ∧ HS 600 h b h' b' ∧ h'.r.settled b.dead) := by
  refine w_ct Tryz.func88 rfl Tryz.ntmps88 rfl fun w B => ?_
  have h69 := f69 (gh := gh) (gb := gb) (h := h)
  have h16 := hh.ok.ge.m16
  refine W1 fun g1 => ?_
  refine cv h69 ?_
  refine W1 fun g2 => ?_
  refine w_loop (γ := Bool × Hul × Ben × Nat) (fun ⟨a, h', b', g2⟩ => [(1, PP g1), (3, PP g2)]) (fun ⟨a, h', b', g2⟩ => [huC gh gb h', cl g1 [PP gh] 83, cl g2 [.bool a] 4, BenC gb b'])
    (fun x => HS (34 * cnt x.2.1.r.st 1 16 + if x.1 then 0 else 34) h b x.2.1 x.2.2.1 ∧ (x.1 = false → x.2.1.r.settled b.dead)) (fun x => if x.1 then 17 - cnt x.2.1.r.st 1 16 else 0) (true, h, b, g2) sl_ ent_ ⟨.refl hh, fun e => by cases e⟩ fun ⟨a, h', b', g2⟩ B ⟨h1, h2⟩ => ?_
  dsimp only at h1 h2 ⊢
  have hc16 := cnt_le h'.r.st 1 16
  cases a
  · refine W ?_
    exact fin ⟨_, rfl, h', b', rfl, rfl, h1.mono (by simp; omega), h2 rfl⟩
  · simp only [if_true] at h1
    have hk2 := h1.be.k2
    have hh' := hh.st h1
    refine W ?_
    refine w_y rfl rfl rfl (y_add rfl rfl rfl) ?_
    have hr := f137s (gh := gh) (gb := gb) (g1 := g1) (g2 := g2) (hh'.ev (IntKind.u64.wrap (h'.ev + 1))) (by omega)
    refine W ?_
    refine cx hr ?_
    rintro _ _ ⟨a, h2, b2, rfl, h3, (⟨rfl, rfl, rfl, h4⟩ | ⟨rfl, rfl, h4⟩)⟩
    · refine W1 fun g3 => ?_
      refine w_land rfl (w_round (false, _, b2, g3) ⟨?_, fun _ => ?_⟩ ?_ sl_ ent_)
      · exact (((h1.ev _).trans h3).mono (by show 34 * cnt h'.r.st 1 16 + 32 ≤ 34 * cnt h'.r.st 1 16 + 34; omega))
      · rw [← h1.be.dead]; exact h4
      · show 0 < 17 - cnt h'.r.st 1 16; omega
    · refine W1 fun g3 => ?_
      refine w_land rfl (w_round (true, h2, b2, g3) ⟨?_, fun e => by cases e⟩ ?_ sl_ ent_)
      · have h5 : cnt h'.r.st 1 16 < cnt h2.r.st 1 16 := h4
        exact (((h1.ev _).trans h3).mono (by show 34 * cnt h'.r.st 1 16 + 32 ≤ 34 * cnt h2.r.st 1 16 + 0; omega))
      · have h5 : cnt h'.r.st 1 16 < cnt h2.r.st 1 16 := h4
        have := cnt_le h2.r.st 1 16
        show 17 - cnt h2.r.st 1 16 < 17 - cnt h'.r.st 1 16; omega
end
end Go.Proofs.YtnilejkfbcnkkaaGreatDoor.V
end
