/- Proved: what a vault keeps; what a shelf keeps while cells are put on it; how a function leaves that deferred a call; how a fault is caught; how a log is gone, how it is cleared, how all goes home; how all goes home; how cells are appended to the log; how cells are laid; blocks laid against each other; the conditions stand in the statements. -/
import Derived.Test.YtnilejkfbcnkkaaGreatDoorM17
set_option linter.unusedVariables false
set_option linter.unusedSimpArgs false
set_option linter.unusedSectionVars false
section
set_option maxRecDepth 100000
set_option maxHeartbeats 1000000
namespace Go.Proofs.YtnilejkfbcnkkaaGreatDoor.V
variable [GlK]
open Go Go.RowKit
attribute [local irreducible] Yields cl blk pur rowc sv exC fo cnt

structure Vlt where
  h : Hul
  b : Ben
  s : Shf
  l : Option (Nat × Lg)
/-- a log that may lack -/
def lgO (gb : Nat) : Option (Nat × Lg) → Chunk
  | none => pur True
  | some x => LogC x.1 gb x.2
def lgV : Option (Nat × Lg) → Value
  | none => PN
  | some x => PP x.1
abbrev VtM (gv gh gb gs : Nat) (V : Vlt) : Hp := [vtC gv gh gb gs (lgV V.l), huC gh gb V.h, BenC gb V.b, ShC gs V.h.r.g V.s, lgO gb V.l, glC]
/-- what a journal that may lack keeps -/
def LO (h : Hul) (b : Ben) : Option (Nat × Lg) → Prop
  | none => h.r.gone = true
  | some x => h.r.gone = false ∧ LgOk x.2 b.k ∧ x.2.d = h.r.g.m ∧ x.2.ring = h.r.g.r
/-- what a shelf keeps -/
structure SK (g : Geo) (s : Shf) (l : Option (Nat × Lg)) : Prop where
  kd : s.kd
  dk : ∀ k, (s.F k).drt = true → k < g.s
  pin : ∀ k, (k, true) ∈ s.ks ↔ (s.F k).drt = true
  hi : ∀ n m, g.m ≤ m → (s.F n).dr m = false
  r : s.r = 20
  f0 : ∀ k, (s.F k).drt = true → 0 < (s.F k).first
  fz : ∀ k, (s.F k).drt = false → (s.F k).first = 0
  fl : ∀ k, (s.F k).drt = true → ∀ x, l = some x → x.2.first ≤ (s.F k).first ∧ (s.F k).first < x.2.first + x.2.live.length
/-- what a vault keeps, but that all is home where the log is gone -/
structure VK0 (C : Nat → Nat → Blk) (V : Vlt) : Prop where
  hb : HB V.h V.b
  id : 0 < V.h.id
  ld : ∃ dv, V.b.ds[V.h.r.g.m]? = some dv ∧ 10 + V.h.r.g.r ≤ dv.n
  lo : LO V.h V.b V.l
  cx : CX C V.h.r.g
  sk : V.h.r.state ≠ 5 → SK V.h.r.g V.s V.l ∧ ∃ B, SB C B V.h V.b V.s
/-- what a vault keeps -/
structure VK (C : Nat → Nat → Blk) (V : Vlt) : Prop extends VK0 C V where
  ne : V.l = none → V.h.r.state ≠ 5 → ∀ n, (V.s.F n).drt = false
theorem VK.g {C : Nat → Nat → Blk} {V : Vlt} (k : VK C V) : GeoOk V.h.r.g := k.hb.ok.ge
theorem VK0.g {C : Nat → Nat → Blk} {V : Vlt} (k : VK0 C V) : GeoOk V.h.r.g := k.hb.ok.ge
/-- members may be lost, the log may be gone: only what is dead -/
structure MV (V V' : Vlt) : Prop where
  id : V'.h.id = V.h.id
  g : V'.h.r.g = V.h.r.g
  d : V'.b.dead = V.b.dead
  st : ∀ j, V'.h.r.st j = V.h.r.st j ∨ (j < V.h.r.g.m ∧ V.b.dead j = true ∧ V'.h.r.st j = 1)
  gone : V'.h.r.gone = V.h.r.gone ∨ (V'.h.r.gone = true ∧ V.b.dead V.h.r.g.m = true)
  has : ∀ m n, m < 16 → V.h.r.has m n = false → V'.h.r.has m n = false
  cur : V'.h.r.cur = V.h.r.cur ∨ ∀ j, j < 16 → V'.h.r.st j ≠ 2
theorem MV.refl {V : Vlt} : MV V V := ⟨rfl, rfl, rfl, fun _ => .inl rfl, .inl rfl, fun _ _ _ h => h, .inl rfl⟩
theorem MV.trans {V V' V'' : Vlt} (p : MV V V') (q : MV V' V'') : MV V V'' := by
  refine ⟨q.id.trans p.id, q.g.trans p.g, q.d.trans p.d, fun j => ?_, ?_, fun m n hm hf => q.has m n hm (p.has m n hm hf), ?_⟩
  · rcases q.st j with e | ⟨e1, e2, e3⟩
    · rcases p.st j with f | ⟨f1, f2, f3⟩
      · exact .inl (e.trans f)
      · exact .inr ⟨f1, f2, e.trans f3⟩
    · exact .inr ⟨by rw [← p.g]; exact e1, by rw [← p.d]; exact e2, e3⟩
  · rcases q.gone with e | ⟨e1, e2⟩
    · rcases p.gone with f | ⟨f1, f2⟩
      · exact .inl (e.trans f)
      · exact .inr ⟨e.trans f1, f2⟩
    · exact .inr ⟨e1, by rw [← p.g, ← p.d]; exact e2⟩
  · rcases q.cur with e | e
    · rcases p.cur with f | f
      · exact .inl (e.trans f)
      · right
        intro j hj
        rcases q.st j with g | ⟨_, _, g⟩
        · rw [g]; exact f j hj
        · rw [g]; decide
    · exact .inr e
/-- a step of a vault -/
structure VSx (K : (Nat → Nat → Blk) → Vlt → Prop) (C C' : Nat → Nat → Blk) (c : Nat) (V V' : Vlt) : Prop where
  mv : MV V V'
  k : V'.b.k ≤ V.b.k + c
  ok : K C' V'
abbrev VS := VSx VK
abbrev VS0 := VSx VK0
theorem VSx.refl {K : (Nat → Nat → Blk) → Vlt → Prop} {C : Nat → Nat → Blk} {c : Nat} {V : Vlt} (k : K C V) : VSx K C C c V V := ⟨.refl, by omega, k⟩
theorem VSx.trans {K K' : (Nat → Nat → Blk) → Vlt → Prop} {C C' C'' : Nat → Nat → Blk} {c c' : Nat} {V V' V'' : Vlt} (p : VSx K C C' c V V') (q : VSx K' C' C'' c' V' V'') : VSx K' C C'' (c + c') V V'' := ⟨p.mv.trans q.mv, by have := p.k; have := q.k; omega, q.ok⟩
theorem VSx.mono {K : (Nat → Nat → Blk) → Vlt → Prop} {C C' : Nat → Nat → Blk} {c c' : Nat} {V V' : Vlt} (p : VSx K C C' c V V') (h : c ≤ c') : VSx K C C' c' V V' := ⟨p.mv, by have := p.k; omega, p.ok⟩
theorem VS0.up {C C' : Nat → Nat → Blk} {c : Nat} {V V' : Vlt} (p : VS0 C C' c V V') (h : V'.l = none → V'.h.r.state ≠ 5 → ∀ n, (V'.s.F n).drt = false) : VS C C' c V V' := ⟨p.mv, p.k, ⟨p.ok, h⟩⟩
theorem VS.refl {C : Nat → Nat → Blk} {c : Nat} {V : Vlt} (k : VK C V) : VS C C c V V := VSx.refl k
theorem LgOk.up {l : Lg} {k k' : Nat} (h : LgOk l k) (hk : k ≤ k') : LgOk l k' := { h with c2 := by have := h.c2; omega, f2 := by have := h.f2; omega, hk := by have := h.hk; omega }
theorem LO.up {h h' : Hul} {b b' : Ben} {l : Option (Nat × Lg)} (o : LO h b l) (hg : h'.r.g = h.r.g) (hn : h'.r.gone = h.r.gone) (hk : b.k ≤ b'.k) : LO h' b' l := by
  cases l with
  | none => exact hn.trans o
  | some x => exact ⟨hn.trans o.1, o.2.1.up hk, o.2.2.1.trans (by rw [hg]), o.2.2.2.trans (by rw [hg])⟩
theorem MO.mv {h h' : Hul} {b b' : Ben} {s s' : Shf} {l l' : Option (Nat × Lg)} (o : MO h b h' b') (hi : h'.id = h.id) : MV ⟨h, b, s, l⟩ ⟨h', b', s', l'⟩ := ⟨hi, o.g, o.d, o.st, .inl o.gone, o.has, o.cur⟩
theorem ld_be {h h' : Hul} {b b' : Ben} {m c : Nat} (hb : BE m c b b') (hg : h'.r.g = h.r.g) (hd : ∃ dv, b.ds[h.r.g.m]? = some dv ∧ 10 + h.r.g.r ≤ dv.n) : ∃ dv, b'.ds[h'.r.g.m]? = some dv ∧ 10 + h'.r.g.r ≤ dv.n := by
  obtain ⟨dv, h1, h2⟩ := hd
  obtain ⟨dv', h3, h4, _⟩ := hb.dv _ dv h1
  rw [hg]
  exact ⟨dv', h3, by omega⟩
/-- where members are lost, and nothing else turns -/
theorem VK0.hs {C : Nat → Nat → Blk} {V : Vlt} {c : Nat} {h' : Hul} {b' : Ben} (k : VK0 C V) (o : HS c V.h V.b h' b') : VS0 C C c V ⟨h', b', V.s, V.l⟩ := by
  refine ⟨o.mo.mv o.id, o.be.k2, k.hb.st o, by show 0 < h'.id; rw [o.id]; exact k.id, ld_be o.be o.re.g k.ld, k.lo.up o.re.g o.re.gone o.be.k1, by show CX C h'.r.g; rw [o.re.g]; exact k.cx, fun h5 => ?_⟩
  have h5' : V.h.r.state ≠ 5 := fun e => h5 (o.mo.state5 e)
  obtain ⟨h1, B, h2⟩ := k.sk h5'
  refine ⟨?_, B, h2.hs k.g.m16 o⟩
  show SK h'.r.g V.s V.l
  rw [o.re.g]; exact h1
theorem VK.hs {C : Nat → Nat → Blk} {V : Vlt} {c : Nat} {h' : Hul} {b' : Ben} (k : VK C V) (o : HS c V.h V.b h' b') : VS C C c V ⟨h', b', V.s, V.l⟩ :=
  (k.toVK0.hs o).up fun hl h5 => k.ne hl fun e => h5 (o.mo.state5 e)
theorem pinL_off {ks : List (Nat × Bool)} {n k : Nat} : (k, true) ∈ pinL ks n false ↔ (k ≠ n ∧ (k, true) ∈ ks) := by
  unfold pinL
  rw [List.mem_map]
  constructor
  · rintro ⟨p, hp, e⟩
    by_cases h : p.1 = n
    · rw [if_pos h] at e; simp at e
    · rw [if_neg h] at e; subst e; exact ⟨h, hp⟩
  · rintro ⟨h, hp⟩
    exact ⟨_, hp, by rw [if_neg h]⟩
theorem SK.clean {g : Geo} {s : Shf} {l : Option (Nat × Lg)} (k : SK g s l) (n : Nat) : SK g (s.clean n) l := by
  have hd : ∀ j, ((s.clean n).F j).drt = true → j ≠ n ∧ (s.F j).drt = true ∧ (s.clean n).F j = s.F j := by
    intro j h
    have h : (fset s.F n (s.F n).clean j).drt = true := h
    by_cases e : j = n
    · subst e; rw [fset_eq, clean_drt] at h; cases h
    · have e2 : (s.clean n).F j = s.F j := fset_ne e
      rw [fset_ne e] at h; exact ⟨e, h, e2⟩
  refine ⟨Shf.kd_clean k.kd n, fun j h => k.dk j (hd j h).2.1, fun j => ?_, fun j m hm => ?_, k.r, fun j h => ?_, fun j h => ?_, fun j h x hx => ?_⟩
  · show (j, true) ∈ pinL s.ks n false ↔ _
    rw [pinL_off, k.pin]
    constructor
    · rintro ⟨h1, h2⟩
      show (fset s.F n (s.F n).clean j).drt = true
      rw [fset_ne h1]; exact h2
    · intro h; exact ⟨(hd j h).1, (hd j h).2.1⟩
  · show (fset s.F n (s.F n).clean j).dr m = false
    by_cases e : j = n
    · subst e; rw [fset_eq]; rfl
    · rw [fset_ne e]; exact k.hi j m hm
  · rw [(hd j h).2.2]; exact k.f0 j (hd j h).2.1
  · show (fset s.F n (s.F n).clean j).first = 0
    have h : (fset s.F n (s.F n).clean j).drt = false := h
    by_cases e : j = n
    · subst e; rw [fset_eq]; rfl
    · rw [fset_ne e] at h ⊢; exact k.fz j h
  · rw [(hd j h).2.2]; exact k.fl j (hd j h).2.1 x hx
/-- where stripes go home -/
theorem BkS.sb {C : Nat → Nat → Blk} {M : Nat} {d : List Nat} {s s' : Shf} {h h' : Hul} {b b' : Ben} {l : Option (Nat × Lg)} (q : BkS M d s h b s' h' b') (hM : M = h.r.g.m) (hc : CX C h.r.g) (hm : h.r.g.m ≤ 16) (hd : ∀ n ∈ d, n < h.r.g.s)
    (hk : SK h.r.g s l) (hb : ∃ B, SB C B h b s) : (∃ B, SB C B h' b' s') ∧ MO h b h' b' ∧ SK h.r.g s' l ∧ ∀ j, (s'.F j).drt = true → (s.F j).drt = true ∧ j ∉ d := by
  induction q with
  | nil => exact ⟨hb, .refl, hk, fun j h => ⟨h, by simp⟩⟩
  | @snoc d n s s1 h h1 h2 b b1 b2 p w ih =>
    obtain ⟨⟨B, hB⟩, o, k1, hj⟩ := ih hM hc hm (fun x hx => hd x (List.mem_append_left _ hx)) hk hb
    subst hM
    have hg := o.g
    refine ⟨⟨fun n' m => if n' = n then C n m else B n' m, ?_⟩, o.trans w.mo, k1.clean n, fun j h => ?_⟩
    · have := SB.back (n := n) hB (by rw [hg]; exact hc) k1.kd (by rw [hg]; exact hm) (by rw [hg]; exact w) (by rw [hg]; exact hd n (by simp))
      exact this
    · have h : (fset s1.F n (s1.F n).clean j).drt = true := h
      by_cases e : j = n
      · subst e; rw [fset_eq, clean_drt] at h; cases h
      · rw [fset_ne e] at h
        obtain ⟨h1, h2⟩ := hj j h
        exact ⟨h1, by simp [h2, e]⟩
end Go.Proofs.YtnilejkfbcnkkaaGreatDoor.V
end
section
set_option maxRecDepth 100000
set_option maxHeartbeats 1000000
namespace Go.Proofs.YtnilejkfbcnkkaaGreatDoor.V
variable [GlK]
open Go Go.RowKit

def hasM (l : List Cel) (m : Nat) : Bool := l.any fun x => decide (x.m = m)
theorem putF {q : Nat} (hq : 0 < q) {T : Nat → Blk} : ∀ {l : List Cel} {b : Ln}, (∀ x ∈ l, x.b = T x.m) →
    (l.foldl (fun ln x => ln.put x.m x.b q) b).m = b.m ∧ (∀ m, (l.foldl (fun ln x => ln.put x.m x.b q) b).kn m = (hasM l m || b.kn m)) ∧ (∀ m, (l.foldl (fun ln x => ln.put x.m x.b q) b).dr m = (hasM l m || b.dr m)) ∧
    (∀ m, (l.foldl (fun ln x => ln.put x.m x.b q) b).bs m = if hasM l m then T m else b.bs m) ∧ (l.foldl (fun ln x => ln.put x.m x.b q) b).first = (if l = [] then b.first else if b.first = 0 ∨ q < b.first then q else b.first)
  | [], b, _ => ⟨rfl, fun m => by simp [hasM], fun m => by simp [hasM], fun m => by simp [hasM], by simp⟩
  | x :: l, b, h => by
    obtain ⟨h1, h2, h3, h4, h5⟩ := putF hq (T := T) (l := l) (b := b.put x.m x.b q) fun y hy => h y (List.mem_cons_of_mem _ hy)
    have hx := h x (by simp)
    have hm : ∀ m, hasM (x :: l) m = (decide (x.m = m) || hasM l m) := fun m => by simp [hasM]
    refine ⟨h1, fun m => ?_, fun m => ?_, fun m => ?_, ?_⟩
    · rw [List.foldl_cons, h2, hm]
      show (hasM l m || fset b.kn x.m true m) = _
      by_cases e : m = x.m
      · subst e; rw [fset_eq]; simp
      · rw [fset_ne e]; simp [Ne.symm e]
    · rw [List.foldl_cons, h3, hm]
      show (hasM l m || fset b.dr x.m true m) = _
      by_cases e : m = x.m
      · subst e; rw [fset_eq]; simp
      · rw [fset_ne e]; simp [Ne.symm e]
    · rw [List.foldl_cons, h4, hm]
      show (if hasM l m then T m else fset b.bs x.m x.b m) = _
      by_cases e : m = x.m
      · subst e; rw [fset_eq]; simp [hx]
      · rw [fset_ne e]; simp [Ne.symm e]
    · rw [List.foldl_cons, h5]
      show (if l = [] then (if b.first = 0 ∨ q < b.first then q else b.first) else if (if b.first = 0 ∨ q < b.first then q else b.first) = 0 ∨ q < (if b.first = 0 ∨ q < b.first then q else b.first) then q else (if b.first = 0 ∨ q < b.first then q else b.first)) = _
      simp only [List.cons_ne_nil, if_false]
      repeat' split
      all_goals first | rfl | omega
theorem inC_iff {l : List Cel} {k : Nat} : inC l k = true ↔ ∃ x ∈ l, x.s = k := by simp [inC]
theorem hasM_filter {l : List Cel} {k m : Nat} : hasM (l.filter fun x => decide (x.s = k)) m = inAt l k m := by
  unfold hasM inAt
  rw [List.any_filter]
theorem inAt_iff {l : List Cel} {k m : Nat} : inAt l k m = true ↔ ∃ x ∈ l, x.s = k ∧ x.m = m := by simp [inAt]
theorem inP_at {g : Geo} {l : List Cel} {k : Nat} : inP g l k = inAt l k (g.par k) := by
  unfold inP inAt
  congr 1
  funext x
  by_cases e : x.s = k
  · subst e; simp [eq_comm]
  · simp [e]
/-- what the cells that are written come to, in memory -/
structure Wr (g : Geo) (C C' : Nat → Nat → Blk) (r : Ros) (cs : List Cel) : Prop where
  cx : CX C' g
  cin : CelIn g cs
  to : ∀ x ∈ cs, x.b = C' x.s x.m
  no : ∀ n m, inAt cs n m = false → (m ≠ g.par n ∨ inC cs n = false) → C' n m = C n m
  pa : ∀ n, inC cs n = true → inAt cs n (g.par n) = false → r.has (g.par n) n = false
/-- one line behind putting -/
structure PtL (g : Geo) (s : Shf) (q : Nat) (cs : List Cel) (T : Nat → Nat → Blk) (k : Nat) (ln : Ln) : Prop where
  kn : ∀ m, ln.kn m = true → (inAt cs k m = true ∧ ln.bs m = T k m) ∨ (inAt cs k m = false ∧ (s.F k).kn m = true ∧ ln.bs m = (s.F k).bs m ∧ (m ≠ g.par k ∨ inC cs k = false))
  dr : ∀ m, m < g.m → (ln.dr m = true ↔ (inAt cs k m = true ∨ (inAt cs k m = false ∧ (s.F k).dr m = true ∧ (m ≠ g.par k ∨ inC cs k = false))))
  kd : ∀ m, ln.dr m = true → ln.kn m = true
  fi : ln.first = (if inC cs k then (if (s.F k).first = 0 ∨ q < (s.F k).first then q else (s.F k).first) else (s.F k).first)
  m : ln.m = (s.F k).m
theorem drt_iff {l : Ln} : l.drt = true ↔ ∃ m, m < l.m ∧ l.dr m = true := by unfold Ln.drt; simp
theorem drt_no {l : Ln} (h : l.drt = false) {m : Nat} (hm : m < l.m) : l.dr m = false := by
  cases e : l.dr m with
  | false => rfl
  | true => have := drt_iff.2 ⟨m, hm, e⟩; rw [h] at this; cases this
theorem PtR.line {g : Geo} {s s1 : Shf} {q : Nat} {cs : List Cel} {T : Nat → Nat → Blk} {l : Option (Nat × Lg)} (p : PtR s q cs s1) (hq : 0 < q) (k : SK g s l) (lm : ∀ n, (s.F n).m = g.m) (to : ∀ x ∈ cs, x.b = T x.s x.m) (n : Nat) :
    PtL g s q cs T n ((s1.forget g cs).F n) := by
  obtain ⟨b, hb, hF⟩ := p.F n
  obtain ⟨h1, h2, h3, h4, h5⟩ := putF hq (T := T n) (l := cs.filter fun x => decide (x.s = n)) (b := b) (by
    intro x hx
    obtain ⟨hx1, hx2⟩ := List.mem_filter.1 hx
    have := of_decide_eq_true hx2
    rw [to x hx1, this])
  rw [← hF] at h1 h2 h3 h4 h5
  simp only [hasM_filter] at h2 h3 h4
  have hnil : (cs.filter fun x => decide (x.s = n)) = [] ↔ inC cs n = false := by
    rw [List.filter_eq_nil_iff]
    constructor
    · intro h
      cases e : inC cs n with
      | false => rfl
      | true => obtain ⟨x, hx, e2⟩ := inC_iff.1 e; exact absurd (by simpa using e2) (h x hx)
    · intro h x hx e
      have : inC cs n = true := inC_iff.2 ⟨x, hx, by simpa using e⟩
      rw [h] at this; cases this
  have hbd : ∀ m, b.dr m = (s.F n).dr m := by
    intro m
    rcases hb with rfl | ⟨rfl, hp⟩
    · rfl
    · show false = _
      have hnd : (s.F n).drt = false := by
        cases e : (s.F n).drt with
        | false => rfl
        | true => exact absurd ((k.pin n).2 e) hp
      by_cases hm : m < g.m
      · exact (drt_no hnd (by rw [lm]; exact hm)).symm
      · exact (k.hi n m (by omega)).symm
  have hbk : ∀ m, b.kn m = true → (s.F n).kn m = true ∧ b.bs m = (s.F n).bs m := by
    intro m h
    rcases hb with rfl | ⟨rfl, hp⟩
    · exact ⟨h, rfl⟩
    · cases h
  have hbf : b.first = (s.F n).first := by
    rcases hb with rfl | ⟨rfl, hp⟩
    · rfl
    · show 0 = _
      refine (k.fz n ?_).symm
      cases e : (s.F n).drt with
      | false => rfl
      | true => exact absurd ((k.pin n).2 e) hp
  have hbm : b.m = (s.F n).m := by
    rcases hb with rfl | ⟨rfl, hp⟩
    · rfl
    · rfl
  have hkd : ∀ m, (s1.F n).dr m = true → (s1.F n).kn m = true := by
    intro m h
    rw [h3] at h
    rw [h2]
    rw [Bool.or_eq_true] at h ⊢
    rcases h with h | h
    · exact .inl h
    · rw [hbd] at h
      rcases hb with rfl | ⟨rfl, hp⟩
      · exact .inr (k.kd n m h)
      · have hnd : (s.F n).drt = false := by
          cases e : (s.F n).drt with
          | false => rfl
          | true => exact absurd ((k.pin n).2 e) hp
        by_cases hm : m < g.m
        · rw [drt_no hnd (by rw [lm]; exact hm)] at h; cases h
        · rw [k.hi n m (by omega)] at h; cases h
  have hff : (s1.F n).first = (if inC cs n then (if (s.F n).first = 0 ∨ q < (s.F n).first then q else (s.F n).first) else (s.F n).first) := by
    rw [h5, hbf]
    by_cases e : inC cs n = true
    · rw [if_neg (fun e2 => by rw [hnil.1 e2] at e; cases e), if_pos e]
    · rw [if_pos (hnil.2 (by simpa using e)), if_neg e]
  have kn0 : ∀ m, (s1.F n).kn m = true → (inAt cs n m = true ∧ (s1.F n).bs m = T n m) ∨ (inAt cs n m = false ∧ (s.F n).kn m = true ∧ (s1.F n).bs m = (s.F n).bs m) := by
    intro m h
    rw [h2] at h
    cases e : inAt cs n m with
    | true => exact .inl ⟨rfl, by rw [h4, e]; rfl⟩
    | false =>
      rw [e, Bool.false_or] at h
      exact .inr ⟨rfl, (hbk m h).1, by rw [h4, e]; simpa using (hbk m h).2⟩
  by_cases hc : inC cs n = true ∧ inP g cs n = false
  · have hF2 : (s1.forget g cs).F n = (s1.F n).drop (g.par n) := by show (if _ then _ else _) = _; rw [if_pos hc]
    have hpar : inAt cs n (g.par n) = false := by rw [← inP_at]; exact hc.2
    rw [hF2]
    refine ⟨fun m h => ?_, fun m hm => ?_, fun m h => ?_, hff, h1.trans hbm⟩
    · have h : fset (s1.F n).kn (g.par n) false m = true := h
      show (_ ∧ fset (s1.F n).bs (g.par n) blk0 m = _) ∨ (_ ∧ _ ∧ fset (s1.F n).bs (g.par n) blk0 m = _ ∧ _)
      by_cases e : m = g.par n
      · subst e; rw [fset_eq] at h; cases h
      · rw [fset_ne e] at h ⊢
        rcases kn0 m h with h | ⟨h1, h2, h3⟩
        · exact .inl h
        · exact .inr ⟨h1, h2, h3, .inl e⟩
    · show fset (s1.F n).dr (g.par n) false m = true ↔ _
      by_cases e : m = g.par n
      · subst e
        rw [fset_eq, hpar]
        simp [hc.1]
      · rw [fset_ne e, h3, hbd]
        cases inAt cs n m <;> simp [e]
    · have h : fset (s1.F n).dr (g.par n) false m = true := h
      show fset (s1.F n).kn (g.par n) false m = true
      by_cases e : m = g.par n
      · subst e; rw [fset_eq] at h; cases h
      · rw [fset_ne e] at h ⊢; exact hkd m h
  · have hF2 : (s1.forget g cs).F n = s1.F n := by show (if _ then _ else _) = _; rw [if_neg hc]
    have hor : ∀ m, inAt cs n m = false → (m ≠ g.par n ∨ inC cs n = false) := by
      intro m hm
      cases e : inC cs n with
      | false => exact .inr rfl
      | true =>
        left
        rintro rfl
        exact hc ⟨e, by rw [inP_at]; exact hm⟩
    rw [hF2]
    refine ⟨fun m h => ?_, fun m hm => ?_, hkd, hff, h1.trans hbm⟩
    · rcases kn0 m h with h | ⟨h1, h2, h3⟩
      · exact .inl h
      · exact .inr ⟨h1, h2, h3, hor m h1⟩
    · rw [h3, hbd]
      cases e : inAt cs n m with
      | true => simp
      | false => simp [hor m e]
section
variable {C C' B : Nat → Nat → Blk} {h : Hul} {b : Ben} {s s1 : Shf} {q : Nat} {cs : List Cel} {l : Option (Nat × Lg)}
theorem SB.put (k : SB C B h b s) (ks : SK h.r.g s l) (lm : ∀ n, (s.F n).m = h.r.g.m) (hq : 0 < q) (p : PtR s q cs s1) (w : Wr h.r.g C C' h.r cs) : SB C' B h b (s1.forget h.r.g cs) := by
  have L := fun n => p.line hq ks lm w.to n
  refine ⟨k.bx, k.dk, fun n m hm hk => ?_, fun n m hn hm hd => ?_⟩
  · rcases (L n).kn m hk with ⟨_, e⟩ | ⟨e1, e2, e3, e4⟩
    · exact e
    · rw [e3, k.kn n m hm e2, w.no n m e1 e4]
  · have hdr := (L n).dr m hm
    rw [hd] at hdr
    have hdr : ¬ _ := fun x => Bool.false_ne_true (hdr.2 x)
    have h1 : inAt cs n m = false := by
      cases e : inAt cs n m with
      | false => rfl
      | true => exact absurd (.inl e) hdr
    by_cases e : m ≠ h.r.g.par n ∨ inC cs n = false
    · have h2 : (s.F n).dr m = false := by
        cases e2 : (s.F n).dr m with
        | false => rfl
        | true => exact absurd (.inr ⟨h1, e2, e⟩) hdr
      rw [w.no n m h1 e]
      exact k.cl n m hn hm h2
    · have e1 : m = h.r.g.par n := Decidable.byContradiction fun c => e (.inl c)
      have e2 : inC cs n = true := by
        cases c : inC cs n with
        | true => rfl
        | false => exact absurd (.inr c) e
      subst e1
      exact .inr ⟨rfl, w.pa n e2 h1⟩
theorem SK.put {x : Nat × Lg} (ks : SK h.r.g s l) (lm : ∀ n, (s.F n).m = h.r.g.m) (hq : 0 < q) (p : PtR s q cs s1) (w : Wr h.r.g C C' h.r cs)
    (hx : x.2.first ≤ q ∧ q < x.2.first + x.2.live.length) (hf : ∀ k, (s.F k).drt = true → x.2.first ≤ (s.F k).first ∧ (s.F k).first < x.2.first + x.2.live.length) : SK h.r.g (s1.forget h.r.g cs) (some x) := by
  have L := fun n => p.line hq ks lm w.to n
  have hm : ∀ n, ((s1.forget h.r.g cs).F n).m = h.r.g.m := fun n => (L n).m.trans (lm n)
  have hin : ∀ n, inC cs n = true → ((s1.forget h.r.g cs).F n).drt = true := by
    intro n e
    obtain ⟨y, hy, e2⟩ := inC_iff.1 e
    exact drt_iff.2 ⟨y.m, by rw [hm]; exact (w.cin y hy).2, ((L n).dr y.m (w.cin y hy).2).2 (.inl (inAt_iff.2 ⟨y, hy, e2, rfl⟩))⟩
  have hout : ∀ n, inC cs n = false → ((s1.forget h.r.g cs).F n).drt = (s.F n).drt := by
    intro n e
    have ha : ∀ m, inAt cs n m = false := by
      intro m
      cases c : inAt cs n m with
      | false => rfl
      | true => obtain ⟨y, hy, e2, _⟩ := inAt_iff.1 c; rw [inC_iff.2 ⟨y, hy, e2⟩] at e; cases e
    rw [Bool.eq_iff_iff, drt_iff, drt_iff]
    constructor
    · rintro ⟨m, h1, h2⟩
      rw [hm] at h1
      rcases ((L n).dr m h1).1 h2 with e | ⟨_, e, _⟩
      · rw [ha] at e; cases e
      · exact ⟨m, by rw [lm]; exact h1, e⟩
    · rintro ⟨m, h1, h2⟩
      rw [lm] at h1
      exact ⟨m, by rw [hm]; exact h1, ((L n).dr m h1).2 (.inr ⟨ha m, h2, .inr e⟩)⟩
  have hks : ∀ n, (n, true) ∈ (s1.forget h.r.g cs).ks ↔ ((n, true) ∈ s.ks ∨ inC cs n = true) := p.pin
  refine ⟨fun n m => (L n).kd m, fun n h => ?_, fun n => ?_, fun n m hnm => ?_, p.r.trans ks.r, fun n h => ?_, fun n h => ?_, fun n h y hy => ?_⟩
  · cases e : inC cs n with
    | true => obtain ⟨y, hy, e2⟩ := inC_iff.1 e; exact e2 ▸ (w.cin y hy).1
    | false => rw [hout n e] at h; exact ks.dk n h
  · rw [hks, ks.pin]
    cases e : inC cs n with
    | true => simp [hin n e]
    | false => simp [hout n e]
  · show ((if _ then _ else _) : Ln).dr m = false
    obtain ⟨b0, hb, hF⟩ := p.F n
    have h3 := (putF hq (T := C' n) (l := cs.filter fun x => decide (x.s = n)) (b := b0) (by
      intro x hx
      obtain ⟨hx1, hx2⟩ := List.mem_filter.1 hx
      rw [w.to x hx1, of_decide_eq_true hx2])).2.2.1 m
    rw [← hF, hasM_filter] at h3
    have ha : inAt cs n m = false := by
      cases c : inAt cs n m with
      | false => rfl
      | true => obtain ⟨y, hy, _, e2⟩ := inAt_iff.1 c; have := (w.cin y hy).2; omega
    have hb0 : b0.dr m = false := by
      rcases hb with rfl | ⟨rfl, _⟩
      · exact ks.hi n m hnm
      · rfl
    rw [ha, hb0] at h3
    split
    · show fset (s1.F n).dr (h.r.g.par n) false m = false
      unfold fset; split
      · rfl
      · exact h3
    · exact h3
  · rw [(L n).fi]
    cases e : inC cs n with
    | true =>
      simp only [if_true]
      split <;> omega
    | false => rw [hout n e] at h; simpa using ks.f0 n h
  · rw [(L n).fi]
    cases e : inC cs n with
    | true => rw [hin n e] at h; cases h
    | false => rw [hout n e] at h; simpa using ks.fz n h
  · cases hy
    rw [(L n).fi]
    cases e : inC cs n with
    | true =>
      simp only [if_true]
      by_cases c : (s.F n).drt = true
      · have := hf n c
        split <;> omega
      · have := ks.fz n (by simpa using c)
        rw [this]; simp; exact hx
    | false =>
      rw [hout n e] at h
      simpa using hf n h
end
end Go.Proofs.YtnilejkfbcnkkaaGreatDoor.V
end
section
set_option maxRecDepth 100000
set_option maxHeartbeats 1000000
namespace Go.Proofs.YtnilejkfbcnkkaaGreatDoor.V
open Go Go.RowKit

/-- a deferred call's contract, as its caller leaves in the mode u -/
def CtD (P : Program) (f : FuncId) (args : List Value) (u u' : FrameMode) (L : Hp) (Q : Hp → Prop) : Prop :=
  ∀ w B, Sat L B → At B w → CallsD P f args.toArray u w fun e v w' => (∃ x, e = .returned x) ∧ v = u' ∧ ∃ L', Q L' ∧ St w (ids B) L' w'
/-- a function that is called so ends by itself -/
def XD (w0 : World) (B : Blks) (Q : Hp → Prop) : Post := fun e a w => (e = .normal ∨ e = .ret) ∧ a.defers = [] ∧ ∃ L', Q L' ∧ St w0 (ids B) L' w
theorem fin_xd {w0 : World} {B : Blks} {Q : Hp → Prop} {N : Nat} {R : Regs} {L L' : Hp} (hQ : Q L') (he : Ent L L') : Gl ⟨N, []⟩ w0 (ids B) (XD w0 B Q) (.fin .normal) R L := by
  unfold Gl
  intro a w ha hw
  exact ⟨.inl rfl, ha.defers, L', hQ, hw.ent he⟩
theorem fin_xdr {w0 : World} {B : Blks} {Q : Hp → Prop} {N : Nat} {R : Regs} {L L' : Hp} (hQ : Q L') (he : Ent L L') : Gl ⟨N, []⟩ w0 (ids B) (XD w0 B Q) (.fin .ret) R L := by
  unfold Gl
  intro a w ha hw
  exact ⟨.inr rfl, ha.defers, L', hQ, hw.ent he⟩
theorem rep0 {args : List Value} {N : Nat} (hl : args.length ≤ N) : Rep ⟨N, []⟩ { tmps := args.toArray ++ Array.replicate (N - args.toArray.size) undef, defers := [] } (regs args) := by
  refine ⟨by simp; omega, rfl, fun t => ?_⟩
  simp only [regs, Array.getD_eq_getD_getElem?, Array.getElem?_append, List.size_toArray, List.getElem?_toArray]
  by_cases ht : t < args.length
  · simp [ht]
  · rw [if_neg ht]
    simp only [Array.getElem?_replicate]
    rw [List.getElem?_eq_none (by omega)]
    split <;> simp
theorem post_s {P : Program} {fn : Func} {w0 : World} {B : Blks} {Q : Hp → Prop} {c₀ : Frame} {cs : List Frame} {u' : FrameMode} (hr : fn.results.toList = []) {e : Exit} {a : Act} {w : World} (h : XD w0 B Q e a w) :
    bodyPostS P fn c₀ cs (fun e v w' => (∃ x, e = .returned x) ∧ v = u' ∧ ∃ L', Q L' ∧ St w0 (ids B) L' w') e a ({ c₀ with mode := u' } :: cs) w := by
  obtain ⟨he, hd, hx⟩ := h
  have hv : (results fn a.tmps).run P w = .ok (one []) w := run_results (R := fun t => a.tmps.getD t undef) (fun _ => rfl) (by rw [hr]; exact trivial)
  rcases he with rfl | rfl
  · exact ⟨hd, u', rfl, _, hv, ⟨_, rfl⟩, rfl, hx⟩
  · exact ⟨hd, u', rfl, _, hv, ⟨_, rfl⟩, rfl, hx⟩
/-- a function that does not recover -/
theorem ctd_of {f : FuncId} {fn : Func} {c : Code} {args : List Value} {L : Hp} {Q : Hp → Prop} {N : Nat} {u : FrameMode} (hf : Tryz.prog.funcs[f]? = some fn) (hb : fn.body = some c) (hn : fn.ntmps = N) (hr : fn.results.toList = []) (hl : Nat.ble args.length N = true)
    (h : ∀ w B, Gl ⟨N, []⟩ w (ids B) (XD w B Q) (.run c []) (regs args) L) : CtD Tryz.prog f args u u L Q := by
  intro w B hs hat
  refine callsD_of_wpS hf hb fun c₀ cs hu => wpS_of_wp ?_
  have h := h w B
  unfold Gl at h
  have hl := Nat.le_of_ble_eq_true hl
  subst hn
  have := h _ w (rep0 hl) ⟨B, hs, hat.st⟩
  refine Code.wp_mono (fun e a' w' q => ?_) this
  have hc : ({ c₀ with mode := u } : Frame) = c₀ := by subst hu; rfl
  have := post_s (P := Tryz.prog) (c₀ := c₀) (cs := cs) (u' := u) hr q
  rwa [hc] at this
section
variable {id t1 t2 : Nat} {ty1 ty2 : TypeId} {p1 p2 : String} {f1 f2 : Array Go.Edge} {at_ : Array TypeId}
theorem rec_region {P : Program} {Q : Exit → Act → List Frame → World → Prop} {a : Act} {cs cs' : List Frame} {w : World} {v : Value} (ht : t1 < a.tmps.size) (hr : (recoverD cs = some (v, cs')) ∨ (recoverD cs = none ∧ v = .nilIface ∧ cs' = cs))
    (h : Q .normal ((a.put (some t1) v).put (some t2) v) cs' w) :
    (Code.region id #[⟨some t1, .call { callee := .builtin .recover, args := #[], argTypes := at_ }, ty1, p1, f1, none⟩, ⟨some t2, .assign (.tmp t1), ty2, p2, f2, none⟩] false).wpS P Q a cs w := by
  refine wpS_region ?_
  have he : ∀ x : Value, (a.put (some t1) x).eval (.tmp t1) = x := fun x => by simp [Act.put, Act.eval, ht]
  show wpOpsS P _ Q [0, 1] a cs w
  rcases hr with hr | ⟨hr, rfl, rfl⟩
  · simp [wpOpsS, Region.wanted, execOp, hr, he, Oper.upon]
    exact h
  · simp [wpOpsS, Region.wanted, execOp, hr, he, Oper.upon]
    exact h
/-- a function that recovers, first of all -/
theorem ctd_rec {f : FuncId} {fn : Func} {c : Code} {args : List Value} {L : Hp} {Q : Hp → Prop} {N : Nat} {u u' : FrameMode} {v : Value} (hf : Tryz.prog.funcs[f]? = some fn)
    (hb : fn.body = some (.seq (Code.region id #[⟨some t1, .call { callee := .builtin .recover, args := #[], argTypes := at_ }, ty1, p1, f1, none⟩, ⟨some t2, .assign (.tmp t1), ty2, p2, f2, none⟩] false) c)) (hn : fn.ntmps = N) (hr : fn.results.toList = []) (hl : Nat.ble args.length N = true) (ht1 : Nat.blt t1 N = true) (ht2 : Nat.blt t2 N = true)
    (hrec : (∃ o, u = .panicking ({ v := v, recovered := false } :: o) ∧ u' = .panicking ({ v := v, recovered := true } :: o)) ∨ (u = .returning ∧ u' = .returning ∧ v = .nilIface))
    (h : ∀ w B, Gl ⟨N, []⟩ w (ids B) (XD w B Q) (.run c []) (upd (upd (regs args) t1 v) t2 v) L) : CtD Tryz.prog f args u u' L Q := by
  intro w B hs hat
  have hl := Nat.le_of_ble_eq_true hl
  have ht1 : t1 < N := by simpa using ht1
  have ht2 : t2 < N := by simpa using ht2
  have h := h w B
  unfold Gl at h
  have rp := rep0 (args := args) hl
  refine callsD_of_wpS hf hb fun c₀ cs hu => wpS_seq (rec_region (v := v) (cs' := { c₀ with mode := u' } :: cs) (by subst hn; rw [rp.size]; exact ht1) ?_ ?_)
  · rcases hrec with ⟨o, rfl, rfl⟩ | ⟨rfl, rfl, rfl⟩
    · left; simp [recoverD, hu]
    · right; refine ⟨by simp [recoverD, hu], rfl, ?_⟩
      have e : ({ c₀ with mode := FrameMode.returning } : Frame) = c₀ := by rw [← hu]
      rw [e]
  · refine wpS_of_wp ?_
    subst hn
    have := h _ w (((rp.put (dst := some t1) v (by simpa using ht1)).put (dst := some t2) v (by simpa using ht2))) ⟨B, hs, hat.st⟩
    refine Code.wp_mono (fun e a' w' q => ?_) this
    exact post_s (P := Tryz.prog) hr q
end
section
variable {P : Program} {fn : Func} {N : Nat} {w0 : World} {B : Blks} {Q : Out → Hp → Prop} {R : Regs} {L L0 K : Hp}
theorem fin_def {fv : Fn} {cap dargs : Array Value} {ds : List Deferred} {f : FuncId} {vs : List Value} {e : Exit} {u u' : FrameMode} {Q0 : Hp → Prop}
    (he : ∀ a w, XF P fn w0 B Q e a w = Leaves P fn a.tmps (After w0 B Q) a.defers u w) (hu : u ≠ .run) (hs : settle u' = .returning)
    (hi : ∀ w, (invoke (.fn fv cap) dargs).run P w = .ok (.enter f vs.toArray) w) (hc : CtD P f vs u u' L0 Q0) (hp : Pick L0 L K)
    (h : ∀ L', Q0 L' → G ⟨N, ds⟩ w0 (ids B) (XF P fn w0 B Q .ret) R (L' ++ K)) :
    G ⟨N, { target := .fn fv cap, args := dargs } :: ds⟩ w0 (ids B) (XF P fn w0 B Q e) R L := by
  intro a w ha hw
  rw [he, ha.defers]
  obtain ⟨B1, hs1, hw⟩ := hw.ent (.perm hp)
  obtain ⟨B0, BK, rfl, hs0, hsK⟩ := Sat.app.1 hs1
  refine leaves_cons hu (hi w) ((hc w B0 hs0 hw.at').mono ?_)
  rintro e' v w' ⟨⟨x, rfl⟩, rfl, L', hq, hw'⟩
  have hst := St.call hw hsK hw'
  show Leaves P fn a.tmps _ ds (settle _) w'
  rw [hs]
  exact h L' hq { a with defers := ds } w' ⟨ha.size, rfl, ha.get⟩ hst
theorem run_inv {f : FuncId} {vs cap : Array Value} {ws : List Value} [hb : BD P f] (hv : vs.toList ++ cap.toList = ws) (w : World) : (invoke (.fn (.func f) cap) vs).run P w = .ok (.enter f ws.toArray) w := by
  obtain ⟨fn, h1, h2, h3⟩ := hb.h
  have h2' : ¬ fn.name = "runtime.NumGoroutine" := by simpa using h2
  have h3' : ¬ fn.body = none := fun e => by rw [e] at h3; cases h3
  subst hv
  simp [invoke, callFunc, h1, h2', h3']
end
section
variable {fn : Func} {N : Nat} {w0 : World} {B : Blks} {Q : Out → Hp → Prop} {R : Regs} {L L0 K : Hp} {f : FuncId} {vs cap : Array Value} {ws : List Value} {ds : List Deferred} {Q0 : Hp → Prop}
theorem fin_dret [hb : BD Tryz.prog f] (hc : CtD Tryz.prog f ws .returning .returning L0 Q0) (hv : vs.toList ++ cap.toList = ws) (hp : Pick L0 L K)
    (h : ∀ L', Q0 L' → Gl ⟨N, ds⟩ w0 (ids B) (XF Tryz.prog fn w0 B Q) (.fin .ret) R (L' ++ K)) :
    Gl ⟨N, { target := .fn (.func f) cap, args := vs } :: ds⟩ w0 (ids B) (XF Tryz.prog fn w0 B Q) (.fin .ret) R L := by
  unfold Gl at h ⊢
  exact fin_def (fun _ _ => rfl) (by simp) rfl (run_inv hv) hc hp h
theorem fin_dnor (h : Gl ⟨N, ds⟩ w0 (ids B) (XF Tryz.prog fn w0 B Q) (.fin .ret) R L) : Gl ⟨N, ds⟩ w0 (ids B) (XF Tryz.prog fn w0 B Q) (.fin .normal) R L := by
  unfold Gl at h ⊢
  exact h
theorem fin_dpan [hb : BD Tryz.prog f] {x : Value} (hc : CtD Tryz.prog f ws (.panicking [{ v := x, recovered := false }]) (.panicking [{ v := x, recovered := true }]) L0 Q0) (hv : vs.toList ++ cap.toList = ws) (hp : Pick L0 L K)
    (h : ∀ L', Q0 L' → Gl ⟨N, ds⟩ w0 (ids B) (XF Tryz.prog fn w0 B Q) (.fin .ret) R (L' ++ K)) :
    Gl ⟨N, { target := .fn (.func f) cap, args := vs } :: ds⟩ w0 (ids B) (XF Tryz.prog fn w0 B Q) (.fin (.panic [{ v := x, recovered := false }])) R L := by
  unfold Gl at h ⊢
  exact fin_def (fun _ _ => rfl) (by simp) rfl (run_inv hv) hc hp h
end
section
variable {P : Program} {n : Fp} {w0 : World} {S : Nat → Prop} {R : Regs} {H : Hp}
variable {dst : Option Tmp} {ty : TypeId} {pos : String} {after : Array Go.Edge} {gd : Option (Nat × Bool)}
theorem ifc {t : TypeId} {ms : Array (String × TypeId)} (h : P.underlying t = some (.interface ms)) : P.underlying t = some (.interface (P.methodsAt t)) := by
  simp [Program.methodsAt, h]
theorem y_nI {t yt u : TypeId} {x y : Operand} {v : Value} {ms : Array (String × TypeId)} (hu : P.underlying t = some (.interface ms)) (hx : ev R x = .iface u v) (hy : ev R y = .nilIface) : Yields P w0 S H ⟨dst, .binOp .neq t x y yt, ty, pos, after, gd⟩ R (.bool true) :=
  y_val fun w => by
    have hg : (eqGuard .neq t x y (.iface u v) .nilIface).run P w = .ok () w := by simp [eqGuard]
    simp [execOp, hx, hy, hg, run_neq_held_nil w t u v (ifc hu)]
theorem y_nI0 {t yt : TypeId} {x y : Operand} {ms : Array (String × TypeId)} (hu : P.underlying t = some (.interface ms)) (hx : ev R x = .nilIface) (hy : y = .const .nilIface) : Yields P w0 S H ⟨dst, .binOp .neq t x y yt, ty, pos, after, gd⟩ R (.bool false) :=
  y_val fun w => by
    subst hy
    have hg : (eqGuard .neq t x (.const .nilIface) .nilIface .nilIface).run P w = .ok () w := by simp [eqGuard]
    have h := run_eql_nil_nil w t (ifc hu)
    have h2 : (binOp .neq t .nilIface .nilIface).run P w = .ok (.bool false) w := by
      have e : binOp .neq t .nilIface .nilIface = (do pure (Value.bool (!(← Op.equal t .nilIface .nilIface))) : Sem Value) := rfl
      rw [e]
      simp [run_equal_nil_nil w t (ifc hu)]
    have hy : ev R (.const .nilIface) = .nilIface := rfl
    simp [execOp, hx, hy, hg, h2]
theorem y_ta {t u : TypeId} {x : Operand} {v : Value} {fs : Array Field} (hu : P.underlying u = some (.struct fs)) (hx : ev R x = .iface u v) : Yields P w0 S H ⟨dst, .typeAssert x t u true, ty, pos, after, gd⟩ R (T [v, .bool true]) :=
  y_val fun w => by
    simp [execOp, hx, Instr.typeAssert, run_underlying hu]
end
section
variable {n : Fp} {w0 : World} {S : Nat → Prop} {X : Post} {R : Regs} {L : Hp} {ks : List Fr} {ops : Array Oper} {rest : List Oper}
variable {ty : TypeId} {pos : String} {after : Array Go.Edge} {x : Operand} {args : Array Operand} {at_ : Array TypeId} {first cap : Array Value}
theorem w_dfr {fv : Go.Fn} {vs : List Value} (hx : ev R x = .func fv first cap) (hv : first.toList ++ args.toList.map (ev R) = vs)
    (h : Gl ⟨n.n, { target := .fn fv cap, args := vs.toArray } :: n.D⟩ w0 S X (.ops ops ks rest) R L) : Gl n w0 S X (.ops ops ks (⟨none, .defer { callee := .value x, args := args, argTypes := at_ }, ty, pos, after, none⟩ :: rest)) R L :=
  w_defer hx (by subst hv; simp) h
end
section
variable {n : Fp} {w0 : World} {S : Nat → Prop} {X : Post} {R : Regs} {L : Hp} {ks : List Fr} {N id : Nat} {l : List Oper}
theorem dstOk_n (hN : n.n = N) : dstOk n = dstOk ⟨N, []⟩ := by subst hN; rfl
/-- drawn regions, where calls are deferred -/
theorem w_drawHD (hN : n.n = N) (hck : (drawOk l (headM l) && l.all (dstOk ⟨N, []⟩)) = true) (h : Gl n w0 S X (.qt l.toArray ks (l.take (headM l)) (l.drop (headM l))) R L) : Gl n w0 S X (.run (.region id l.toArray true) ks) R L :=
  w_drawH (by rw [dstOk_n hN]; exact hck) h
theorem w_drawAD (hN : n.n = N) (hck : (drawOkF l (hdsOf l) (tlOf l) (elOf l) && l.all (dstOk ⟨N, []⟩)) = true) (h : Gl n w0 S X (.qk l.toArray ks l (elOf l) (hdsOf l) [] (tlOf l)) R L) : Gl n w0 S X (.run (.region id l.toArray true) ks) R L :=
  w_drawA (by rw [dstOk_n hN]; exact hck) h
theorem w_segAD (hN : n.n = N) (hck : (segAll l (segsOf l) && l.all (dstOk ⟨N, []⟩)) = true) (h : Gl n w0 S X (.sg l.toArray ks l (segsOf l) 0) R L) : Gl n w0 S X (.run (.region id l.toArray true) ks) R L :=
  w_segA (by rw [dstOk_n hN]; exact hck) h
theorem w_dagD (hN : n.n = N) (ord : List Sp) (hck : (dagAll l ord && l.all (dstOk ⟨N, []⟩)) = true) (h : Gl n w0 S X (.dg l.toArray ks l ord [] []) R L) : Gl n w0 S X (.run (.region id l.toArray true) ks) R L :=
  w_dag ord (by rw [dstOk_n hN]; exact hck) h
end
end Go.Proofs.YtnilejkfbcnkkaaGreatDoor.V
end
section
set_option maxRecDepth 100000
set_option maxHeartbeats 1000000
namespace Go.Proofs.YtnilejkfbcnkkaaGreatDoor.V
variable [GlK]
open Go Go.RowKit
attribute [local irreducible] Yields cl blk pur rowc sv exC fo cnt

theorem f79v : CtV Tryz.prog 79 [I 0] [] (T []) := f79.mono fun o L ⟨h1, h2⟩ => ⟨_, h1, rfl, h2⟩
section
variable {gv gh gb gs ge : Nat} {l : Value} {e e0 : Int}
theorem f76r : CtD Tryz.prog 76 [PP gv, PP ge] .returning .returning [] (fun L => L = []) := by
  refine ctd_rec Tryz.func76 rfl Tryz.ntmps76 rfl rfl rfl rfl (.inr ⟨rfl, rfl, rfl⟩) fun w B => ?_
  refine W ?_
  refine w_y rfl rfl rfl (y_nI0 Tryz.underlying20 rfl rfl) ?_
  refine W ?_
  exact w_ends rfl (fin_xd rfl ent_)
theorem f76p (he : e ≠ 8) : CtD Tryz.prog 76 [PP gv, PP ge] (.panicking [{ v := fltV e, recovered := false }]) (.panicking [{ v := fltV e, recovered := true }]) [vtC gv gh gb gs l, cl ge [.int .i64 e0] 39]
    (fun L => L = [vtC gv gh gb gs l, cl ge [.int .i64 e] 39]) := by
  refine ctd_rec Tryz.func76 rfl Tryz.ntmps76 rfl rfl rfl rfl (.inl ⟨[], rfl, rfl⟩) fun w B => ?_
  refine W ?_
  refine w_y rfl rfl rfl (y_nI Tryz.underlying20 rfl rfl) ?_
  refine W ?_
  refine w_y rfl rfl rfl (y_ta Tryz.underlying176 rfl) ?_
  refine W ?_
  refine w_al rfl fun g1 => ?_
  refine w_stW (vs := [.int .i64 e]) rfl rfl inferInstance inferInstance upd_ inferInstance ?_
  refine W ?_
  rw [decide_eq_false he]
  refine W ?_
  exact w_ends rfl (fin_xd rfl ent_)
end
end Go.Proofs.YtnilejkfbcnkkaaGreatDoor.V
end
section
set_option maxRecDepth 100000
set_option maxHeartbeats 1000000
namespace Go.Proofs.YtnilejkfbcnkkaaGreatDoor.V
variable [GlK]
open Go Go.RowKit
attribute [local irreducible] Yields cl blk pur rowc sv exC fo cnt

section
variable {n : Fp} {w0 : World} {S : Nat → Prop} {X : Post} {R : Regs} {L : Hp} {k : Kd}
/-- what a shelf's own block tells -/
structure ShP (g : Geo) (s : Shf) : Prop where
  nd : (s.ks.map Prod.fst).Nodup
  le : s.ks.length ≤ s.r
  lm : ∀ k, (s.F k).m = g.m
  ab : ∀ k, k ∉ s.ks.map Prod.fst → s.F k = Ln.emp g.m
theorem g_shp {gs : Nat} {g : Geo} {s : Shf} {K : Hp} (hk : k.plain = true) (hs : Sel (ShC gs g s) L K) (h : ShP g s → Gl n w0 S X k R L) : Gl n w0 S X k R L := by
  refine g_ex hk hs fun ⟨gl, gm, mp⟩ => ?_
  refine g_pure hk Sel.hd fun ho => ?_
  refine g_ex hk (Sel.tl Sel.hd) fun ⟨x1, x2, x3, x4, x5, x6⟩ => ?_
  refine g_pure hk Sel.hd fun hl => ?_
  have hle := hl.le
  refine g_ent hk ?_ (h ⟨ho.kd, hle, ho.ln, ho.ab⟩)
  refine Ent.trans ?_ (Ent.perm (List.Perm.symm hs))
  refine ent_ex (gl, gm, mp) (ent_pur ho ?_)
  refine Ent.sel (sel_) ?_
  refine ent_ex (x1, x2, x3, x4, x5, x6) (ent_pur hl ent_)
end
theorem ld_mo {h h' : Hul} {b b' : Ben} (o : MO h b h' b') (hd : ∃ dv, b.ds[h.r.g.m]? = some dv ∧ 10 + h.r.g.r ≤ dv.n) : ∃ dv, b'.ds[h'.r.g.m]? = some dv ∧ 10 + h'.r.g.r ≤ dv.n := by
  obtain ⟨dv, h1, h2⟩ := hd
  have := o.n h.r.g.m
  rw [h1] at this
  rw [o.g]
  cases e : b'.ds[h.r.g.m]? with
  | none => rw [e] at this; cases this
  | some dv' => rw [e] at this; simp at this; exact ⟨dv', rfl, by omega⟩
theorem VK0.gone {C : Nat → Nat → Blk} {h : Hul} {b : Ben} {s : Shf} {l : Option (Nat × Lg)} (k : VK0 C ⟨h, b, s, l⟩) : VK0 C ⟨{ h with r := { h.r with gone := true } }, b, s, none⟩ := by
  refine ⟨⟨⟨k.hb.ok.ge, k.hb.ok.cur, k.hb.ok.lo, k.hb.ok.hi, k.hb.ok.one⟩, k.hb.len, k.hb.n⟩, k.id, k.ld, rfl, k.cx, fun h5 => ?_⟩
  have h5' : h.r.state ≠ 5 := fun e => h5 (state5_up (r := h.r) (r' := { h.r with gone := true }) (fun j _ e => e) (fun _ => rfl) e)
  obtain ⟨h1, B, h2⟩ := k.sk h5'
  exact ⟨⟨h1.kd, h1.dk, h1.pin, h1.hi, h1.r, h1.f0, h1.fz, fun _ _ x hx => by cases hx⟩, B, h2.bx, h2.dk, h2.kn, h2.cl⟩
theorem VS0.gone {C : Nat → Nat → Blk} {h : Hul} {b : Ben} {s : Shf} {l : Option (Nat × Lg)} (k : VK0 C ⟨h, b, s, l⟩) (hd : b.dead h.r.g.m = true) : VS0 C C 0 ⟨h, b, s, l⟩ ⟨{ h with r := { h.r with gone := true } }, b, s, none⟩ :=
  ⟨⟨rfl, rfl, rfl, fun _ => .inl rfl, .inr ⟨rfl, hd⟩, fun _ _ _ h => h, .inl rfl⟩, by show b.k ≤ b.k + 0; omega, k.gone⟩
theorem SK.all {g : Geo} {s : Shf} {l : Option (Nat × Lg)} (k : SK g s l) : ∀ n, (s.F n).drt = true → n < g.s := k.dk
/-- all gone home -/
theorem VS.home {C : Nat → Nat → Blk} {c : Nat} {h h' h1 : Hul} {b b' b1 : Ben} {s s' : Shf} {l : Option (Nat × Lg)} {d : List Nat} (k : VK0 C ⟨h, b, s, l⟩) (h5 : h.r.state ≠ 5) (hd : DirL s d) (q : BkS h.r.g.m d s h b s' h1 b1) (hs : HS c h1 b1 h' b') (hK : HK 9619200 h b h' b') :
    VS C C 9619200 ⟨h, b, s, l⟩ ⟨h', b', s', l⟩ ∧ ∀ j, (s'.F j).drt = false := by
  obtain ⟨sk, B, sb⟩ := k.sk h5
  obtain ⟨⟨B', hB⟩, o, k1, hj⟩ := q.sb (l := l) rfl k.cx k.g.m16 (fun n hn => sk.dk n ((hd.mem n).1 hn)) sk ⟨B, sb⟩
  have o2 := o.trans hs.mo
  have hg : h1.r.g = h.r.g := o.g
  have hcl : ∀ j, (s'.F j).drt = false := by
    intro j
    cases e : (s'.F j).drt with
    | false => rfl
    | true => obtain ⟨e1, e2⟩ := hj j e; exact absurd ((hd.mem j).2 e1) e2
  refine ⟨⟨o2.mv hK.id, hK.k, ⟨hK.hb, by show 0 < h'.id; rw [hK.id]; exact k.id, ld_mo o2 k.ld, k.lo.up o2.g o2.gone o2.k1, by show CX C h'.r.g; rw [o2.g]; exact k.cx, fun _ => ⟨?_, B', hB.hs (by rw [hg]; exact k.g.m16) hs⟩⟩, fun _ _ => hcl⟩, hcl⟩
  show SK h'.r.g s' l
  rw [o2.g]; exact k1
/-- where it fails -/
theorem VS.fail {C : Nat → Nat → Blk} {c : Nat} {h h' : Hul} {b b' : Ben} {s s' : Shf} {l : Option (Nat × Lg)} (k : VK0 C ⟨h, b, s, l⟩) (hK : HK c h b h' b') (h5 : h'.r.state = 5) : VS C C c ⟨h, b, s, l⟩ ⟨h', b', s', l⟩ :=
  ⟨hK.mo.mv hK.id, hK.k, ⟨hK.hb, by show 0 < h'.id; rw [hK.id]; exact k.id, ld_mo hK.mo k.ld, k.lo.up hK.mo.g hK.mo.gone hK.mo.k1, by show CX C h'.r.g; rw [hK.mo.g]; exact k.cx, fun e => absurd h5 e⟩, fun _ e => absurd h5 e⟩
/-- where the log is gone, and all went home -/
def Vlt.out (V : Vlt) : Prop := V.l = none ∧ (V.h.r.state ≠ 5 → ∀ n, (V.s.F n).drt = false)
section
variable {gv gh gb gs : Nat} {C : Nat → Nat → Blk} {h : Hul} {b : Ben} {s : Shf} {l0 : Option (Nat × Lg)} {lv : Value}
theorem f166 (k : VK C ⟨h, b, s, l0⟩) (hdead : b.dead h.r.g.m = true) (hk : b.k < 1099501000000) :
    Ct Tryz.prog 166 [PP gv] [vtC gv gh gb gs lv, huC gh gb h, BenC gb b, ShC gs h.r.g s] (fun v L => ∃ V' : Vlt, v = T [] ∧ V'.out ∧ VS C C 9630000 ⟨h, b, s, l0⟩ V' ∧ L = [vtC gv gh gb gs PN, huC gh gb V'.h, BenC gb V'.b, ShC gs V'.h.r.g V'.s]) := by
  refine w_ct Tryz.func166 rfl Tryz.ntmps166 rfl fun w B => ?_
  have hv := VS0.gone k.toVK0 hdead
  have k1 := k.toVK0.gone
  have h177 := f177 (gh := gh) (gb := gb) (h := h) (gone := true) k.hb.ok
  have h39 := f39 (gh := gh) (gb := gb) (h := { h with r := { h.r with gone := true } }) k1.hb.ok
  refine g_shp rfl (sel_ : Sel (ShC gs h.r.g s) _ _) fun hp => ?_
  refine W ?_
  refine cl' h177 ?_
  rintro _ _ ⟨rfl, rfl⟩
  refine W ?_
  refine cv h39 ?_
  refine W ?_
  by_cases h5 : ({ h.r with gone := true } : Ros).state = 5
  · rw [decide_eq_false (show ¬ ((({ h.r with gone := true } : Ros).state : Int) ≠ 5) by omega)]
    have h88 := f88 (gh := gh) (gb := gb) k1.hb (by show b.k < _; omega)
    refine W ?_
    refine cl' h88 ?_
    rintro _ _ ⟨h2, b2, rfl, rfl, hs, hset⟩
    refine W ?_
    refine cv f79v ?_
    refine W ?_
    have hv2 := VS0.up (hv.trans (k1.hs hs)) fun _ e => absurd (hs.mo.state5 h5) e
    refine w_ends rfl (finN (fin0 rfl ⟨_, rfl, ⟨⟨h2, b2, s, none⟩, rfl, ⟨rfl, fun e => absurd (hs.mo.state5 h5) e⟩, hv2.mono (by omega), rfl⟩⟩ ?_))
    have e : h2.r.g = h.r.g := hs.re.g
    show Ent _ [_, _, _, ShC gs h2.r.g s]
    rw [e]
    exact ent_
  · rw [decide_eq_true (show ((({ h.r with gone := true } : Ros).state : Int) ≠ 5) by omega)]
    have hsk : SK h.r.g s none := (k1.sk h5).1
    have h154 := f154 (gs := gs) (gh := gh) (gb := gb) (s := s) k1.hb k1.id (by show b.k < _; omega) (by have := hp.le; have := hsk.r; omega) hsk.kd hsk.dk
    refine W ?_
    refine cl' h154 ?_
    rintro _ _ ⟨s', h', b', hq, rfl, (⟨rfl, h6, d, h1, b1, hd, hB, hS, hset⟩ | ⟨rfl, h6⟩)⟩
    · obtain ⟨hv1, hcl⟩ := VS.home (l := none) k1 h5 hd hB hS hq
      have h88 := f88 (gh := gh) (gb := gb) hq.hb (by have := hq.k; show b'.k < _; have : b'.k ≤ b.k + 9619200 := hq.k; omega)
      refine W ?_
      refine cl' h88 ?_
      rintro _ _ ⟨h2, b2, rfl, rfl, hs, hset⟩
      refine W ?_
      refine cv f79v ?_
      refine W ?_
      have hv2 := (hv.trans hv1).trans (hv1.ok.hs hs)
      refine w_ends rfl (finN (fin0 rfl ⟨_, rfl, ⟨⟨h2, b2, s', none⟩, rfl, ⟨rfl, fun _ => hcl⟩, hv2.mono (by omega), rfl⟩⟩ ?_))
      have e : h2.r.g = h.r.g := hs.re.g.trans hq.g
      show Ent _ [_, _, _, ShC gs h2.r.g s']
      rw [e]
      exact ent_
    · have hv1 := VS.fail (s' := s') (l := none) k1 hq h6
      have h88 := f88 (gh := gh) (gb := gb) hq.hb (by have : b'.k ≤ b.k + 9619200 := hq.k; omega)
      refine W ?_
      refine cl' h88 ?_
      rintro _ _ ⟨h2, b2, rfl, rfl, hs, hset⟩
      refine W ?_
      refine cv f79v ?_
      refine W ?_
      have hv2 := (hv.trans hv1).trans (hv1.ok.hs hs)
      refine w_ends rfl (finN (fin0 rfl ⟨_, rfl, ⟨⟨h2, b2, s', none⟩, rfl, ⟨rfl, fun e => absurd (hs.mo.state5 h6) e⟩, hv2.mono (by omega), rfl⟩⟩ ?_))
      have e : h2.r.g = h.r.g := hs.re.g.trans hq.g
      show Ent _ [_, _, _, ShC gs h2.r.g s']
      rw [e]
      exact ent_
end
theorem LE.rd {d c : Nat} {b b' : Ben} (e : LE d c b b') {j s : Nat} (hj : j ≠ d) : b'.rd j s = b.rd j s := by
  obtain ⟨dv, dv', h1, h2, _⟩ := e.h
  unfold Ben.rd
  rw [h2, List.getElem?_set_ne (Ne.symm hj)]
theorem LE.dead {d c : Nat} {b b' : Ben} (e : LE d c b b') : b'.dead = b.dead := by
  obtain ⟨dv, dv', h1, h2, h3, h4⟩ := e.h
  have hl := (List.getElem?_eq_some_iff.1 h1).1
  funext j
  unfold Ben.dead
  rw [h2]
  by_cases c : j = d
  · subst c; rw [List.getElem?_set_self hl, h1]; exact h4
  · rw [List.getElem?_set_ne (Ne.symm c)]
theorem HB.le {d c : Nat} {h : Hul} {b b' : Ben} (k : HB h b) (e : LE d c b b') (hd : d = h.r.g.m) : HB h b' := by
  obtain ⟨dv, dv', h1, h2, h3, h4⟩ := e.h
  refine ⟨k.ok, by rw [h2, List.length_set]; exact k.len, fun j x hj hx => ?_⟩
  rw [h2, List.getElem?_set_ne (by omega)] at hx
  exact k.n j x hj hx
/-- where the log's device turns -/
theorem VS.le {C : Nat → Nat → Blk} {c : Nat} {h : Hul} {b b' : Ben} {s : Shf} {l l' : Option (Nat × Lg)} (k : VK C ⟨h, b, s, l⟩) (e : LE h.r.g.m c b b') (lo : LO h b' l') (hn : l' = none → l = none) (sk : h.r.state ≠ 5 → SK h.r.g s l → SK h.r.g s l') :
    VS C C c ⟨h, b, s, l⟩ ⟨h, b', s, l'⟩ := by
  refine ⟨⟨rfl, rfl, e.dead, fun _ => .inl rfl, .inl rfl, fun _ _ _ h => h, .inl rfl⟩, e.k2, ⟨k.hb.le e rfl, k.id, ?_, lo, k.cx, fun h5 => ?_⟩, fun h => k.ne (hn h)⟩
  · obtain ⟨dv, h1, h2⟩ := k.ld
    obtain ⟨dv', h3, h4, _⟩ := e.dev h1
    exact ⟨dv', h3, by show 10 + h.r.g.r ≤ dv'.n; have : 10 + h.r.g.r ≤ dv.n := h2; omega⟩
  · obtain ⟨h1, B, h2⟩ := k.sk h5
    refine ⟨sk h5 h1, B, h2.bx, fun n m hm hh hd => ?_, h2.kn, h2.cl⟩
    have hm' : m < h.r.g.m := hm
    show b'.rd m (2 + n) = _
    rw [e.rd (by omega)]
    have hd' : b'.dead m = false := hd
    rw [e.dead] at hd'
    exact h2.dk n m hm hh hd'
section
variable {gv gh gb gs : Nat} {C : Nat → Nat → Blk} {V : Vlt}
theorem f103 {gl j : Nat} {lg : Lg} (k : VK C V) (hl : V.l = some (gl, lg)) (hj : j ≤ lg.live.length) (hf : V.h.r.state ≠ 5 → ∀ n, (V.s.F n).drt = true → lg.first + j ≤ (V.s.F n).first) (hk : V.b.k < 1099500000000) :
    Ct Tryz.prog 103 [PP gv, U (lg.first + j)] (VtM gv gh gb gs V) (fun v L => ∃ V' : Vlt, v = T [] ∧ VS C C 9640000 V V' ∧ L = VtM gv gh gb gs V' ∧ ((V'.l = some (gl, lg.clr j) ∧ V'.s = V.s ∧ V'.h = V.h) ∨ V'.out)) := by
  obtain ⟨h, b, s, l⟩ := V
  subst hl
  show Ct Tryz.prog 103 [PP gv, U (lg.first + j)] [vtC gv gh gb gs (PP gl), huC gh gb h, BenC gb b, ShC gs h.r.g s, LogC gl gb lg, glC] _
  refine w_ct Tryz.func103 rfl Tryz.ntmps103 rfl fun w B => ?_
  obtain ⟨dv, hd, hdn⟩ := k.ld
  obtain ⟨hlo1, hlo2, hlo3, hlo4⟩ := k.lo
  have hlo3 : lg.d = h.r.g.m := hlo3
  have hlo4 : lg.ring = h.r.g.r := hlo4
  have h165 := f165 (gl := gl) (gb := gb) (l := lg) (b := b) (dv := dv) (j := j) hlo2 (by rw [hlo3]; exact hd) (by rw [hlo4]; exact hdn) (by show b.k < _; have : b.k < _ := hk; omega) hj
  refine W ?_
  refine cl' h165 ?_
  rintro _ _ ⟨b', hle, (⟨rfl, hdd, rfl⟩ | ⟨rfl, hdd, hok, rfl⟩)⟩
  · rw [hlo3] at hle
    have hv := VS.le k hle (k.lo.up rfl rfl hle.k1) (fun h => h) fun _ x => x
    have hdm : b'.dead h.r.g.m = true := by rw [hle.dead, Ben.dead_eq hd]; exact hdd
    have h166 := f166 (gv := gv) (gh := gh) (gb := gb) (gs := gs) (lv := PP gl) hv.ok hdm (by have := hle.k2; have : b.k < _ := hk; omega)
    refine W ?_
    refine cl' h166 ?_
    rintro _ _ ⟨V', rfl, hn, hv2, rfl⟩
    refine W ?_
    refine w_ends rfl (finN (fin0 rfl ⟨_, rfl, ⟨V', rfl, (hv.trans hv2).mono (by omega), rfl, .inr hn⟩⟩ ?_))
    obtain ⟨h', b2, s', l'⟩ := V'
    obtain ⟨hn, _⟩ := hn
    subst hn
    show Ent _ [_, _, _, _, pur True, _]
    refine Ent.sel sel_ (Ent.sel sel_ (Ent.sel sel_ (Ent.sel sel_ (ent_pur trivial ent_))))
  · refine W ?_
    refine cv f79v ?_
    refine W ?_
    rw [hlo3] at hle
    have hv := VS.le (l' := some (gl, lg.clr j)) k hle ⟨hlo1, hok, hlo3, hlo4⟩ (fun h => by cases h) fun h5 sk => ⟨sk.kd, sk.dk, sk.pin, sk.hi, sk.r, sk.f0, sk.fz, fun n hn x hx => by
      cases hx
      have h1 : lg.first + j ≤ (s.F n).first := hf h5 n hn
      have h2 := (sk.fl n hn (gl, lg) rfl).2
      show lg.first + j ≤ _ ∧ _ < lg.first + j + (lg.live.drop j).length
      rw [List.length_drop]
      have h2 : (s.F n).first < lg.first + lg.live.length := h2
      omega⟩
    exact w_ends rfl (finN (fin0 rfl ⟨_, rfl, ⟨⟨h, b', s, some (gl, lg.clr j)⟩, rfl, hv.mono (by omega), rfl, .inl ⟨rfl, rfl, rfl⟩⟩⟩ ent_))
end
end Go.Proofs.YtnilejkfbcnkkaaGreatDoor.V
end
section
set_option maxRecDepth 100000
set_option maxHeartbeats 1000000
namespace Go.Proofs.YtnilejkfbcnkkaaGreatDoor.V
variable [GlK]
open Go Go.RowKit
attribute [local irreducible] Yields cl blk pur rowc sv exC fo cnt

theorem f79q {e : Int} (he : e ≠ 0) : CtP Tryz.prog 79 [.int .i64 e] [] (fun o L => o = .pan (fltV e) ∧ L = []) := f79p he
theorem DirL.uniq {s : Shf} {d d' : List Nat} (h : DirL s d) (h' : DirL s d') : d = d' :=
  List.Perm.eq_of_pairwise (le := fun a b => a ≤ b) (fun a b _ _ h1 h2 => Nat.le_antisymm h1 h2) h.srt h'.srt ((List.perm_ext_iff_of_nodup h.nd h'.nd).2 fun k => (h.mem k).trans (h'.mem k).symm)
/-- what all going home comes to -/
def DrnQ (V' : Vlt) (o : Out) : Prop :=
  (o = .ret (T []) ∧ (V'.h.r.state ≠ 5 → (∀ n, (V'.s.F n).drt = false) ∧ ∀ x, V'.l = some x → x.2.live = [])) ∨ (o = .pan (fltV 16) ∧ V'.h.r.state = 5)
section
variable {gv gh gb gs : Nat} {C : Nat → Nat → Blk} {h : Hul} {b : Ben} {s : Shf}
theorem f98n (k : VK C ⟨h, b, s, none⟩) (h5 : h.r.state ≠ 5) (hk : b.k < 1099400000000) :
    CtP Tryz.prog 98 [PP gv] [vtC gv gh gb gs PN, huC gh gb h, BenC gb b, ShC gs h.r.g s] (fun o L => ∃ V' : Vlt, VS C C 19300000 ⟨h, b, s, none⟩ V' ∧ V'.l = none ∧ L = [vtC gv gh gb gs PN, huC gh gb V'.h, BenC gb V'.b, ShC gs V'.h.r.g V'.s] ∧ DrnQ V' o) := by
  have hsk : SK h.r.g s none := (k.sk h5).1
  refine w_ct Tryz.func98 rfl Tryz.ntmps98 rfl fun w B => ?_
  refine g_shp rfl (sel_ : Sel (ShC gs h.r.g s) _ _) fun hp => ?_
  have h154 := f154 (gs := gs) (gh := gh) (gb := gb) (s := s) k.hb k.id (by show b.k < _; omega) (by have := hp.le; have := hsk.r; show s.ks.length ≤ 1000; omega) hsk.kd hsk.dk
  refine W ?_
  refine cl' h154 ?_
  rintro _ _ ⟨s', h', b', hq, rfl, (⟨rfl, h6, d, h1, b1, hd, hB, hS, hset⟩ | ⟨rfl, h6⟩)⟩
  · obtain ⟨hv1, hcl⟩ := VS.home k.toVK0 h5 hd hB hS hq
    have hg : h'.r.g = h.r.g := hq.g
    refine W ?_
    refine cv f79v ?_
    refine W ?_
    refine fin0 rfl ⟨⟨h', b', s', none⟩, hv1.mono (by omega), rfl, rfl, .inl ⟨rfl, fun _ => ⟨hcl, fun x hx => by cases hx⟩⟩⟩ ?_
    show Ent _ [_, _, _, ShC gs h'.r.g s']
    rw [hg]; exact ent_
  · have hv1 := VS.fail (s' := s') k.toVK0 hq h6
    have hg : h'.r.g = h.r.g := hq.g
    refine W ?_
    refine clP (f79q (e := 16) (by decide)) (fun v M hq => ?_) (fun v M hq => ?_)
    · cases hq.1
    · obtain ⟨e, rfl⟩ := hq
      cases e
      refine w_pan ?_
      refine finP ⟨⟨h', b', s', none⟩, hv1.mono (by omega), rfl, rfl, .inr ⟨rfl, h6⟩⟩ ?_
      show Ent _ [_, _, _, ShC gs h'.r.g s']
      rw [hg]; exact ent_
theorem f98s {gl : Nat} {lg : Lg} (k : VK C ⟨h, b, s, some (gl, lg)⟩) (h5 : h.r.state ≠ 5) (hk : b.k < 1099400000000) :
    CtP Tryz.prog 98 [PP gv] [vtC gv gh gb gs (PP gl), huC gh gb h, BenC gb b, ShC gs h.r.g s, LogC gl gb lg, glC] (fun o L => ∃ V' : Vlt, VS C C 19300000 ⟨h, b, s, some (gl, lg)⟩ V' ∧ L = VtM gv gh gb gs V' ∧ DrnQ V' o) := by
  have hsk : SK h.r.g s (some (gl, lg)) := (k.sk h5).1
  refine w_ct Tryz.func98 rfl Tryz.ntmps98 rfl fun w B => ?_
  refine g_shp rfl (sel_ : Sel (ShC gs h.r.g s) _ _) fun hp => ?_
  have h154 := f154 (gs := gs) (gh := gh) (gb := gb) (s := s) k.hb k.id (by show b.k < _; omega) (by have := hp.le; have := hsk.r; show s.ks.length ≤ 1000; omega) hsk.kd hsk.dk
  refine W ?_
  refine cl' h154 ?_
  rintro _ _ ⟨s', h', b', hq, rfl, (⟨rfl, h6, d, h1, b1, hd, hB, hS, hset⟩ | ⟨rfl, h6⟩)⟩
  · obtain ⟨hv1, hcl⟩ := VS.home k.toVK0 h5 hd hB hS hq
    have hg : h'.r.g = h.r.g := hq.g
    have hkk : b'.k ≤ b.k + 9619200 := hq.k
    have hlo : LgOk lg b'.k := hv1.ok.lo.2.1
    have hf2 := hlo.f2
    have h102 := f102 (gl := gl) (gb := gb) (l := lg) (by omega)
    have h103 := f103 (gv := gv) (gh := gh) (gb := gb) (gs := gs) (gl := gl) (lg := lg) (j := lg.live.length) hv1.ok rfl (Nat.le_refl _) (fun _ n hn => by rw [hcl n] at hn; cases hn) (by show b'.k < _; omega)
    have h103 : Ct Tryz.prog 103 [PP gv, U (lg.first + lg.live.length)] [vtC gv gh gb gs (PP gl), huC gh gb h', BenC gb b', ShC gs h'.r.g s', LogC gl gb lg, glC] _ := h103
    rw [hg] at h103
    refine W ?_
    refine cv f79v ?_
    refine W ?_
    refine cv h102 ?_
    refine W ?_
    refine w_if rfl (fun hc => ?_) (fun hc => ?_)
    · refine W ?_
      refine cl' h103 ?_
      rintro _ _ ⟨V', rfl, hv2, rfl, hor⟩
      refine W ?_
      have hv := hv1.trans hv2
      refine w_ends rfl (finN (fin0 rfl ⟨V', hv.mono (by omega), rfl, .inl ⟨rfl, fun h5' => ?_⟩⟩ ent_))
      rcases hor with ⟨e1, e2, e3⟩ | ⟨e1, e2⟩
      · refine ⟨fun n => by rw [e2]; exact hcl n, fun x hx => ?_⟩
        rw [e1] at hx; cases hx
        show lg.live.drop lg.live.length = []
        simp
      · exact ⟨e2 h5', fun x hx => by rw [e1] at hx; cases hx⟩
    · refine W ?_
      have hl0 : lg.live = [] := List.eq_nil_of_length_eq_zero (by omega)
      refine w_ends rfl (finN (fin0 rfl ⟨⟨h', b', s', some (gl, lg)⟩, hv1.mono (by omega), rfl, .inl ⟨rfl, fun _ => ⟨hcl, fun x hx => by cases hx; exact hl0⟩⟩⟩ ?_))
      show Ent _ [_, _, _, ShC gs h'.r.g s', LogC gl gb lg, _]
      rw [hg]; exact ent_
  · have hv1 := VS.fail (s' := s') k.toVK0 hq h6
    have hg : h'.r.g = h.r.g := hq.g
    refine W ?_
    refine clP (f79q (e := 16) (by decide)) (fun v M hq => ?_) (fun v M hq => ?_)
    · cases hq.1
    · obtain ⟨e, rfl⟩ := hq
      cases e
      refine w_pan ?_
      refine finP ⟨⟨h', b', s', some (gl, lg)⟩, hv1.mono (by omega), rfl, .inr ⟨rfl, h6⟩⟩ ?_
      show Ent _ [_, _, _, ShC gs h'.r.g s', LogC gl gb lg, _]
      rw [hg]; exact ent_
end
section
variable {gv gh gb gs : Nat} {C : Nat → Nat → Blk} {V : Vlt}
theorem f98 (k : VK C V) (h5 : V.h.r.state ≠ 5) (hk : V.b.k < 1099400000000) :
    CtP Tryz.prog 98 [PP gv] (VtM gv gh gb gs V) (fun o L => ∃ V' : Vlt, VS C C 19300000 V V' ∧ L = VtM gv gh gb gs V' ∧ DrnQ V' o) := by
  obtain ⟨h, b, s, l⟩ := V
  cases l with
  | none =>
    refine CtP.mono (CtP.frame (K := [pur True, glC]) (f98n (gv := gv) (gh := gh) (gb := gb) (gs := gs) k h5 hk) (Ent.refl _)) ?_
    rintro o _ ⟨M, ⟨V', hv, hl, rfl, hq⟩, rfl⟩
    refine ⟨V', hv, ?_, hq⟩
    obtain ⟨h', b', s', l'⟩ := V'
    subst hl
    rfl
  | some x => exact f98s (gv := gv) (gh := gh) (gb := gb) (gs := gs) (gl := x.1) (lg := x.2) k h5 hk
/-- what the asking whether one may write comes to -/
def JrnQ (V : Vlt) (o : Out) : Prop := (o = .ret (T []) ∧ V.h.r.state ≠ 5 ∧ V.l ≠ none) ∨ (o = .pan (fltV 16) ∧ V.h.r.state = 5) ∨ (o = .pan (fltV 13) ∧ V.l = none)
theorem f93v (hr : RosOk V.h.r) : CtP Tryz.prog 93 [PP gv] (VtM gv gh gb gs V) (fun o L => L = VtM gv gh gb gs V ∧ JrnQ V o) := by
  obtain ⟨h, b, s, l⟩ := V
  cases l with
  | none =>
    refine CtP.mono (CtP.frame (K := [BenC gb b, ShC gs h.r.g s, pur True, glC]) (f93n (gv := gv) (gh := gh) (gb := gb) (gs := gs) hr) (Ent.refl _)) ?_
    rintro o _ ⟨M, ⟨rfl, (⟨e, _⟩ | ⟨e, h⟩)⟩, rfl⟩
    · exact ⟨rfl, .inr (.inr ⟨e, rfl⟩)⟩
    · exact ⟨rfl, .inr (.inl ⟨e, h⟩)⟩
  | some x =>
    refine CtP.mono (CtP.frame (K := [BenC gb b, ShC gs h.r.g s, LogC x.1 gb x.2, glC]) (f93 (gv := gv) (gh := gh) (gb := gb) (gs := gs) (gl := x.1) hr) (Ent.refl _)) ?_
    rintro o _ ⟨M, ⟨rfl, (⟨e, h⟩ | ⟨e, h⟩)⟩, rfl⟩
    · exact ⟨rfl, .inl ⟨e, h, fun h => by cases h⟩⟩
    · exact ⟨rfl, .inr (.inl ⟨e, h⟩)⟩
theorem f95 {st : List Nat} {a : Option Addr} {c : Nat} (k : VK C V) (h5 : V.h.r.state ≠ 5) (hl : V.l ≠ none) (hk : V.b.k < 1099400000000) (hst : st.length ≤ 100) (hcp : cpl (srt st) ≤ 20) :
    CtP Tryz.prog 95 [PP gv, .slice a st.length c] (VtM gv gh gb gs V ++ [sv eNat 3 st a c]) (fun o L => ∃ V' : Vlt, VS C C 19300000 V V' ∧ L = VtM gv gh gb gs V' ++ [sv eNat 3 st a c] ∧ JrnQ V' o ∧
      (o = .ret (T []) → ∀ d, DirL V'.s d → cpl (srt (st ++ d)) ≤ 20)) := by
  obtain ⟨h, b, s, l⟩ := V
  cases l with
  | none => exact absurd rfl hl
  | some x =>
    obtain ⟨gl, lg⟩ := x
    have hsk : SK h.r.g s (some (gl, lg)) := (k.sk h5).1
    have h98 := f98s (gv := gv) (gh := gh) (gb := gb) (gs := gs) (gl := gl) (lg := lg) k h5 hk
    show CtP Tryz.prog 95 [PP gv, .slice a st.length c] [vtC gv gh gb gs (PP gl), huC gh gb h, BenC gb b, ShC gs h.r.g s, LogC gl gb lg, glC, sv eNat 3 st a c] _
    refine w_ct Tryz.func95 rfl Tryz.ntmps95 rfl fun w B => ?_
    refine g_shp rfl (sel_ : Sel (ShC gs h.r.g s) _ _) fun hp => ?_
    have hr20 := hsk.r
    have h147 := f147 (gs := gs) (g := h.r.g) (s := s) (st := st) (a := a) (c := c) k.g (by have := hp.le; omega) (by omega)
    refine W ?_
    refine cl' h147 ?_
    rintro _ _ ⟨d, hd, rfl, rfl⟩
    refine W ?_
    refine w_ifn rfl (fun hc => ?_) (fun hc => ?_)
    · refine W ?_
      refine clP h98 (fun v M hq => ?_) (fun v M hq => ?_)
      · obtain ⟨V', hv, rfl, (⟨e, hcl⟩ | ⟨e, h6⟩)⟩ := hq
        · cases e
          have h93 := f93v (gv := gv) (gh := gh) (gb := gb) (gs := gs) hv.ok.hb.ok
          refine W ?_
          refine clP h93 (fun v M hq => ?_) (fun v M hq => ?_)
          · obtain ⟨rfl, (⟨e, h6, h7⟩ | ⟨e, h6⟩ | ⟨e, h6⟩)⟩ := hq
            · cases e
              refine W ?_
              refine w_ends rfl (finN (fin0 rfl ⟨V', hv, rfl, .inl ⟨rfl, h6, h7⟩, fun _ d hd => ?_⟩ ent_))
              have : d = [] := by
                cases d with
                | nil => rfl
                | cons n d => have := (hd.mem n).1 (by simp); rw [(hcl h6).1 n] at this; cases this
              subst this
              rw [List.append_nil]; exact hcp
            · cases e
            · cases e
          · obtain ⟨rfl, (⟨e, h6, h7⟩ | ⟨e, h6⟩ | ⟨e, h6⟩)⟩ := hq
            · cases e
            · cases e
              refine w_pan ?_
              exact finP ⟨V', hv, rfl, .inr (.inl ⟨rfl, h6⟩), fun e => by cases e⟩ ent_
            · cases e
              refine w_pan ?_
              exact finP ⟨V', hv, rfl, .inr (.inr ⟨rfl, h6⟩), fun e => by cases e⟩ ent_
        · cases e
      · obtain ⟨V', hv, rfl, (⟨e, hcl⟩ | ⟨e, h6⟩)⟩ := hq
        · cases e
        · cases e
          refine w_pan ?_
          exact finP ⟨V', hv, rfl, .inr (.inl ⟨rfl, h6⟩), fun e => by cases e⟩ ent_
    · refine W ?_
      refine w_ends rfl (finN (fin0 rfl ⟨⟨h, b, s, some (gl, lg)⟩, VS.refl k, rfl, .inl ⟨rfl, h5, hl⟩, fun _ d' hd' => ?_⟩ ent_))
      have : d' = d := hd'.uniq hd
      subst this
      omega
end
end Go.Proofs.YtnilejkfbcnkkaaGreatDoor.V
end
section
set_option maxRecDepth 100000
set_option maxHeartbeats 1000000
namespace Go.Proofs.YtnilejkfbcnkkaaGreatDoor.V
variable [GlK]
open Go Go.RowKit
attribute [local irreducible] Yields cl blk pur rowc sv exC fo cnt

section
variable {gv gh gb gs : Nat} {C : Nat → Nat → Blk} {V : Vlt}
/-- what an appending comes to -/
def ApQ (V V' : Vlt) (o : Out) : Prop :=
  (∃ q gl lg, o = .ret (U q) ∧ 0 < q ∧ V'.l = some (gl, lg) ∧ lg.first ≤ q ∧ q < lg.first + lg.live.length ∧ V'.h.r.state ≠ 5 ∧ ∀ n, (V'.s.F n).drt = true → (V.s.F n).drt = true) ∨
  (o = .pan (fltV 16) ∧ V'.h.r.state = 5) ∨ (o = .pan (fltV 13) ∧ V'.l = none)
/-- the log's append, as it stands in a vault -/
theorem VS.app {h : Hul} {b b' : Ben} {s : Shf} {gl : Nat} {lg : Lg} (k : VK C ⟨h, b, s, some (gl, lg)⟩) (e : LE lg.d 40 b b') {size kk : Nat} {sum : Int} (ho : LgOk (lg.app size kk sum) b'.k) :
    VS C C 40 ⟨h, b, s, some (gl, lg)⟩ ⟨h, b', s, some (gl, lg.app size kk sum)⟩ := by
  obtain ⟨h1, h2, h3, h4⟩ := k.lo
  have h3 : lg.d = h.r.g.m := h3
  rw [h3] at e
  refine VS.le k e ⟨h1, ho, h3, h4⟩ (fun h => by cases h) fun h5 sk => ⟨sk.kd, sk.dk, sk.pin, sk.hi, sk.r, sk.f0, sk.fz, fun n hn x hx => ?_⟩
  cases hx
  have h2 := sk.fl n hn (gl, lg) rfl
  show lg.first ≤ _ ∧ _ < lg.first + (lg.live ++ [_]).length
  rw [List.length_append]
  have h2 : lg.first ≤ (s.F n).first ∧ (s.F n).first < lg.first + lg.live.length := h2
  exact ⟨h2.1, by have := h2.2; simp; omega⟩
theorem VS.deadlog {h : Hul} {b b' : Ben} {s : Shf} {gl : Nat} {lg : Lg} (k : VK C ⟨h, b, s, some (gl, lg)⟩) {c : Nat} (e : LE lg.d c b b') : VS C C c ⟨h, b, s, some (gl, lg)⟩ ⟨h, b', s, some (gl, lg)⟩ := by
  have h3 : lg.d = h.r.g.m := k.lo.2.2.1
  rw [h3] at e
  exact VS.le k e (k.lo.up rfl rfl e.k1) (fun h => h) fun _ x => x
theorem f152 {cs : List Cel} {gc cc : Nat} (k : VK C V) (h5 : V.h.r.state ≠ 5) (hl : V.l ≠ none) (hk : V.b.k < 1099300000000) (h1 : 1 ≤ cs.length) (h2 : cs.length ≤ 32) (hok : CelOk cs) :
    CtP Tryz.prog 152 [PP gv, SL gc cs.length cc] (VtM gv gh gb gs V ++ [rowc eCel 163 cs gc cc]) (fun o L => ∃ V' : Vlt, VS C C 30000000 V V' ∧ L = VtM gv gh gb gs V' ++ [rowc eCel 163 cs gc cc] ∧ ApQ V V' o) := by
  obtain ⟨h, b, s, l⟩ := V
  cases l with
  | none => exact absurd rfl hl
  | some x =>
    obtain ⟨gl, lg⟩ := x
    have hkb : b.k < 1099300000000 := hk
    obtain ⟨dv, hd, hdn⟩ := k.ld
    have hd : b.ds[h.r.g.m]? = some dv := hd
    have hdn : 10 + h.r.g.r ≤ dv.n := hdn
    obtain ⟨hlo1, hlo2, hlo3, hlo4⟩ := k.lo
    have hlo2 : LgOk lg b.k := hlo2
    have hlo3 : lg.d = h.r.g.m := hlo3
    have hlo4 : lg.ring = h.r.g.r := hlo4
    have h206 := f206 (gl := gl) (gb := gb) (l := lg) (b := b) (dv := dv) (c := cs) (gc := gc) (cc := cc) hlo2 (by rw [hlo3]; exact hd) (by rw [hlo4]; exact hdn) (by omega) h1 h2 hok
    have h98 := f98s (gv := gv) (gh := gh) (gb := gb) (gs := gs) (gl := gl) (lg := lg) k h5 (by show b.k < _; omega)
    show CtP Tryz.prog 152 [PP gv, SL gc cs.length cc] [vtC gv gh gb gs (PP gl), huC gh gb h, BenC gb b, ShC gs h.r.g s, LogC gl gb lg, glC, rowc eCel 163 cs gc cc] _
    refine w_ct Tryz.func152 rfl Tryz.ntmps152 rfl fun w B => ?_
    refine W ?_
    refine cl' h206 ?_
    rintro _ _ (⟨hfull, rfl, rfl⟩ | ⟨b', hle, (⟨x, rfl, hdd, rfl⟩ | ⟨size, kk, sum, rfl, hdd, hok2, rfl⟩)⟩)
    · refine W ?_
      refine clP h98 (fun v M hq => ?_) (fun v M hq => ?_)
      · obtain ⟨V1, hv1, rfl, (⟨e, hcl1⟩ | ⟨e, h6⟩)⟩ := hq
        · cases e
          have h93 := f93v (gv := gv) (gh := gh) (gb := gb) (gs := gs) hv1.ok.hb.ok
          refine W ?_
          refine clP h93 (fun v M hq => ?_) (fun v M hq => ?_)
          · obtain ⟨rfl, (⟨e, h6, h7⟩ | ⟨e, h6⟩ | ⟨e, h6⟩)⟩ := hq
            · cases e
              obtain ⟨hc, bc, sc, lc⟩ := V1
              cases lc with
              | none => exact absurd rfl h7
              | some x =>
                obtain ⟨gl1, lg1⟩ := x
                have hlv : lg1.live = [] := (hcl1 h6).2 (gl1, lg1) rfl
                have hdr := (hcl1 h6).1
                have hkb1 : bc.k ≤ b.k + 19300000 := hv1.k
                obtain ⟨dv1, hd1, hdn1⟩ := hv1.ok.ld
                have hd1 : bc.ds[hc.r.g.m]? = some dv1 := hd1
                have hdn1 : 10 + hc.r.g.r ≤ dv1.n := hdn1
                obtain ⟨hmo1, hmo2, hmo3, hmo4⟩ := hv1.ok.lo
                have hmo2 : LgOk lg1 bc.k := hmo2
                have hmo3 : lg1.d = hc.r.g.m := hmo3
                have hmo4 : lg1.ring = hc.r.g.r := hmo4
                have h206 := f206 (gl := gl1) (gb := gb) (l := lg1) (b := bc) (dv := dv1) (c := cs) (gc := gc) (cc := cc) hmo2 (by rw [hmo3]; exact hd1) (by rw [hmo4]; exact hdn1) (by omega) h1 h2 hok
                refine g_eq (L2 := [vtC gv gh gb gs (PP gl1), huC gh gb hc, BenC gb bc, ShC gs hc.r.g sc, LogC gl1 gb lg1, glC, rowc eCel 163 cs gc cc]) rfl ?_
                refine W ?_
                refine cl' h206 ?_
                rintro _ _ (⟨hfull, rfl, rfl⟩ | ⟨b', hle, (⟨x, rfl, hdd, rfl⟩ | ⟨size, kk, sum, rfl, hdd, hok2, rfl⟩)⟩)
                · exfalso
                  have e1 := hmo2.nil hlv
                  have e2 := hmo2.r1
                  have e3 : hds cs.length ≤ 2 := by unfold hds; omega
                  rw [hlv] at hfull
                  simp at hfull
                  omega
                · have hv := hv1.trans (VS.deadlog hv1.ok hle)
                  have hdm : b'.dead hc.r.g.m = true := by rw [hle.dead, Ben.dead_eq hd1]; exact hdd
                  have hkk : b'.k ≤ bc.k + 40 := hle.k2
                  have h166 := f166 (gv := gv) (gh := gh) (gb := gb) (gs := gs) (lv := PP gl1) hv.ok hdm (by omega)
                  refine W ?_
                  refine cl' h166 ?_
                  rintro _ _ ⟨V', rfl, hout, hv2, rfl⟩
                  obtain ⟨h2, b2, s2, l2⟩ := V'
                  obtain ⟨hn, hcl⟩ := hout
                  subst hn
                  have h93 := f93n (gv := gv) (gh := gh) (gb := gb) (gs := gs) hv2.ok.hb.ok
                  refine W ?_
                  refine clP h93 (fun v M hq => ?_) (fun v M hq => ?_)
                  · obtain ⟨rfl, (⟨e, h6⟩ | ⟨e, h6⟩)⟩ := hq
                    · cases e
                    · cases e
                  · obtain ⟨rfl, (⟨e, h6⟩ | ⟨e, h6⟩)⟩ := hq
                    · cases e
                      refine w_pan ?_
                      refine finP ⟨⟨h2, b2, s2, none⟩, (hv.trans hv2).mono (by omega), rfl, .inr (.inr ⟨rfl, rfl⟩)⟩ ?_
                      show Ent _ [_, _, _, _, pur True, _, _]
                      exact Ent.sel sel_ (Ent.sel sel_ (Ent.sel sel_ (Ent.sel sel_ (ent_pur trivial ent_))))
                    · cases e
                      refine w_pan ?_
                      refine finP ⟨⟨h2, b2, s2, none⟩, (hv.trans hv2).mono (by omega), rfl, .inr (.inl ⟨rfl, h6⟩)⟩ ?_
                      show Ent _ [_, _, _, _, pur True, _, _]
                      exact Ent.sel sel_ (Ent.sel sel_ (Ent.sel sel_ (Ent.sel sel_ (ent_pur trivial ent_))))
                · have hv := hv1.trans (VS.app hv1.ok hle hok2)
                  refine W ?_
                  refine cv f79v ?_
                  refine W ?_
                  exact fin ⟨⟨hc, b', sc, some (gl1, lg1.app size kk sum)⟩, hv.mono (by omega), rfl, .inl ⟨lg1.first + lg1.live.length, gl1, lg1.app size kk sum, rfl, by have := hmo2.f1; omega, rfl, by show lg1.first ≤ _; omega, by show _ < lg1.first + (lg1.live ++ [_]).length; rw [List.length_append]; simp, h6, fun n hn => by have : (sc.F n).drt = true := hn; rw [hdr n] at this; cases this⟩⟩
            · cases e
            · cases e
          · obtain ⟨rfl, (⟨e, h6, h7⟩ | ⟨e, h6⟩ | ⟨e, h6⟩)⟩ := hq
            · cases e
            · cases e
              refine w_pan ?_
              exact finP ⟨V1, hv1.mono (by omega), rfl, .inr (.inl ⟨rfl, h6⟩)⟩ ent_
            · cases e
              refine w_pan ?_
              exact finP ⟨V1, hv1.mono (by omega), rfl, .inr (.inr ⟨rfl, h6⟩)⟩ ent_
        · cases e
      · obtain ⟨V1, hv1, rfl, (⟨e, hcl1⟩ | ⟨e, h6⟩)⟩ := hq
        · cases e
        · cases e
          refine w_pan ?_
          exact finP ⟨V1, hv1.mono (by omega), rfl, .inr (.inl ⟨rfl, h6⟩)⟩ ent_
    · have hv := VS.deadlog k hle
      have hdm : b'.dead h.r.g.m = true := by rw [hle.dead, Ben.dead_eq hd]; exact hdd
      have hkk : b'.k ≤ b.k + 40 := hle.k2
      have h166 := f166 (gv := gv) (gh := gh) (gb := gb) (gs := gs) (lv := PP gl) hv.ok hdm (by omega)
      refine W ?_
      refine cl' h166 ?_
      rintro _ _ ⟨V', rfl, hout, hv2, rfl⟩
      obtain ⟨h2, b2, s2, l2⟩ := V'
      obtain ⟨hn, hcl⟩ := hout
      subst hn
      have h93 := f93n (gv := gv) (gh := gh) (gb := gb) (gs := gs) hv2.ok.hb.ok
      refine W ?_
      refine clP h93 (fun v M hq => ?_) (fun v M hq => ?_)
      · obtain ⟨rfl, (⟨e, h6⟩ | ⟨e, h6⟩)⟩ := hq
        · cases e
        · cases e
      · obtain ⟨rfl, (⟨e, h6⟩ | ⟨e, h6⟩)⟩ := hq
        · cases e
          refine w_pan ?_
          refine finP ⟨⟨h2, b2, s2, none⟩, (hv.trans hv2).mono (by omega), rfl, .inr (.inr ⟨rfl, rfl⟩)⟩ ?_
          show Ent _ [_, _, _, _, pur True, _, _]
          exact Ent.sel sel_ (Ent.sel sel_ (Ent.sel sel_ (Ent.sel sel_ (ent_pur trivial ent_))))
        · cases e
          refine w_pan ?_
          refine finP ⟨⟨h2, b2, s2, none⟩, (hv.trans hv2).mono (by omega), rfl, .inr (.inl ⟨rfl, h6⟩)⟩ ?_
          show Ent _ [_, _, _, _, pur True, _, _]
          exact Ent.sel sel_ (Ent.sel sel_ (Ent.sel sel_ (Ent.sel sel_ (ent_pur trivial ent_))))
    · have hv := VS.app k hle hok2
      refine W ?_
      refine cv f79v ?_
      refine W ?_
      exact fin ⟨⟨h, b', s, some (gl, lg.app size kk sum)⟩, hv.mono (by omega), rfl, .inl ⟨lg.first + lg.live.length, gl, lg.app size kk sum, rfl, by have := hlo2.f1; omega, rfl, by show lg.first ≤ _; omega, by show _ < lg.first + (lg.live ++ [_]).length; rw [List.length_append]; simp, h5, fun _ h => h⟩⟩
end
end Go.Proofs.YtnilejkfbcnkkaaGreatDoor.V
end
section
set_option maxRecDepth 100000
set_option maxHeartbeats 1000000
namespace Go.Proofs.YtnilejkfbcnkkaaGreatDoor.V
variable [GlK]
open Go Go.RowKit
attribute [local irreducible] Yields cl blk pur rowc sv exC fo cnt

section
variable {gv gh gb gs : Nat} {C C' : Nat → Nat → Blk} {V : Vlt}
theorem Wr.up {g : Geo} {r r' : Ros} {cs : List Cel} (w : Wr g C C' r cs) (h : ∀ n, r.has (g.par n) n = false → r'.has (g.par n) n = false) : Wr g C C' r' cs := ⟨w.cx, w.cin, w.to, w.no, fun n h1 h2 => h n (w.pa n h1 h2)⟩
theorem Geo.par_lt {g : Geo} (hg : GeoOk g) (n : Nat) : g.par n < g.m := by
  have := hg.m3; unfold Geo.par; omega
theorem CelIn.ok {g : Geo} {cs : List Cel} (hg : GeoOk g) (h : CelIn g cs) : CelOk cs := fun x hx => by have := h x hx; have := hg.s64; have := hg.m16; omega
/-- where cells are put -/
theorem VS.put {h : Hul} {b : Ben} {s s1 : Shf} {x : Nat × Lg} {q : Nat} {cs : List Cel} (k : VK C ⟨h, b, s, some x⟩) (h5 : h.r.state ≠ 5) (lm : ∀ n, (s.F n).m = h.r.g.m) (hq : 0 < q) (p : PtR s q cs s1) (w : Wr h.r.g C C' h.r cs)
    (hx : x.2.first ≤ q ∧ q < x.2.first + x.2.live.length) : VS C C' 0 ⟨h, b, s, some x⟩ ⟨h, b, s1.forget h.r.g cs, some x⟩ := by
  obtain ⟨sk, B, sb⟩ := k.sk h5
  refine ⟨⟨rfl, rfl, rfl, fun _ => .inl rfl, .inl rfl, fun _ _ _ h => h, .inl rfl⟩, by show b.k ≤ b.k + 0; omega, ⟨k.hb, k.id, k.ld, k.lo, w.cx, fun _ => ⟨sk.put lm hq p w hx (fun n hn => sk.fl n hn x rfl), B, sb.put sk lm hq p w⟩⟩, fun h => by cases h⟩
theorem SK.dirL {g : Geo} {s : Shf} {l : Option (Nat × Lg)} (k : SK g s l) (hg : GeoOk g) : DirL s ((List.range g.s).filter fun n => (s.F n).drt) := by
  refine ⟨List.nodup_range.filter _, ?_, fun n => ?_, ?_⟩
  · exact (List.Pairwise.imp (fun h => Nat.le_of_lt h) (List.pairwise_lt_range (n := g.s))).filter _
  · rw [List.mem_filter, List.mem_range]
    exact ⟨fun h => h.2, fun h => ⟨k.dk n h, h⟩⟩
  · have h1 := List.length_filter_le (fun n => (s.F n).drt) (List.range g.s)
    rw [List.length_range] at h1
    have := hg.s64
    omega
theorem cpl_mono {l l' : List Nat} (h : ∀ n ∈ l, n ∈ l') : cpl (srt l) ≤ cpl (srt l') := by
  obtain ⟨D, h1, h2, h3⟩ := cpl_ex l
  rw [← h3]
  exact le_cpl h1 fun n hn => h n ((h2 n).1 hn)
/-- what a laying comes to -/
def LayQ (C C' : Nat → Nat → Blk) (V V' : Vlt) (o : Out) : Prop :=
  (o = .ret (T []) ∧ VS C C' 50000000 V V' ∧ V'.h.r.state ≠ 5) ∨ (VS C C 50000000 V V' ∧ ((o = .pan (fltV 16) ∧ V'.h.r.state = 5) ∨ (o = .pan (fltV 13) ∧ V'.l = none)))
theorem f97 {cs : List Cel} {a : Option Addr} {cc : Nat} (k : VK C V) (h5 : V.h.r.state ≠ 5) (hl : V.l ≠ none) (hk : V.b.k < 1099200000000) (h1 : 1 ≤ cs.length) (h2 : cs.length ≤ 32) (w : Wr V.h.r.g C C' V.h.r cs) (hcp : cpl (srt (cs.map Cel.s)) ≤ 20) :
    CtP Tryz.prog 97 [PP gv, .slice a cs.length cc] (VtM gv gh gb gs V ++ [sv eCel 163 cs a cc]) (fun o L => ∃ V' : Vlt, L = VtM gv gh gb gs V' ++ [sv eCel 163 cs a cc] ∧ LayQ C C' V V' o) := by
  have hok : CelOk cs := w.cin.ok k.g
  refine w_ct Tryz.func97 rfl Tryz.ntmps97 rfl fun w' B => ?_
  refine W ?_
  refine g_nil eNat 3 rfl ?_
  refine w_loop (γ := Nat × Option Addr × Nat) (fun ⟨j, a', c'⟩ => [(0, PP gv), (1, .slice a cs.length cc), (4, .slice a' j c'), (8, .slice a cs.length cc), (9, I cs.length), (10, I j)])
    (fun ⟨j, a', c'⟩ => VtM gv gh gb gs V ++ [sv eCel 163 cs a cc, sv eNat 3 ((cs.take j).map Cel.s) a' c']) (fun ⟨j, a', c'⟩ => j ≤ cs.length) (fun x => cs.length - x.1) (0, none, 0) sl_ ent_
    (Nat.zero_le _) fun ⟨j, a', c'⟩ B hj => ?_
  dsimp only at hj ⊢
  refine W ?_
  refine w_if rfl (fun h => ?_) (fun h => ?_)
  · have hlt : j < cs.length := by omega
    refine w_skip ?_
    refine g_svp rfl (sel_ : Sel (sv eCel 163 cs a cc) _ _) (by omega) fun ga hga => ?_
    subst hga
    refine W1 fun g10 => ?_
    refine w_bs1 eNat cs[j].s rfl rfl rfl (by decide) fun gt => ?_
    refine W ?_
    refine w_ap eNat (sel_ : Sel (sv eNat 3 _ a' c') _ _) (rd_row (show rowc eNat 3 [cs[j].s] gt 1 ∈ _ from mem_)) (by simp; omega) (by simp; omega) (hn0 := by simp; omega) fun a2 c2 => ?_
    have e1 : (cs.take j).map Cel.s ++ [cs[j].s] = (cs.take (j + 1)).map Cel.s := by rw [List.take_succ_eq_append_getElem hlt, List.map_append]; rfl
    have e2 : ((cs.take (j + 1)).map Cel.s).length = j + 1 := by simp; omega
    rw [e1, e2]
    refine W ?_
    exact w_land rfl (w_round (j + 1, a2, c2) (by show j + 1 ≤ cs.length; omega) (by show cs.length - (j + 1) < cs.length - j; omega) sl_ (Ent.sel sel_ (Ent.sel sel_ (Ent.sel sel_ (Ent.sel sel_ (Ent.sel sel_ (Ent.sel sel_ (Ent.trans (Ent.sel (sel_ : Sel (rowc eCel 163 cs ga cc) _ _) (.refl _)) (ent_sv ent_)))))))))
  · have hjj : j = cs.length := by omega
    subst hjj
    rw [List.take_length]
    have h95 := f95 (gv := gv) (gh := gh) (gb := gb) (gs := gs) (st := cs.map Cel.s) (a := a') (c := c') k h5 hl (by omega) (by rw [List.length_map]; omega) hcp
    rw [List.length_map] at h95
    refine W ?_
    refine clP h95 (fun v M hq => ?_) (fun v M hq => ?_)
    · obtain ⟨V1, hv1, rfl, (⟨e, h6, h7⟩ | ⟨e, h6⟩ | ⟨e, h6⟩), hfit⟩ := hq
      · cases e
        refine W ?_
        refine g_svp rfl (sel_ : Sel (sv eCel 163 cs a cc) _ _) (by omega) fun ga hga => ?_
        subst hga
        have hkb1 := hv1.k
        have h152 := f152 (gv := gv) (gh := gh) (gb := gb) (gs := gs) (cs := cs) (gc := ga) (cc := cc) hv1.ok h6 h7 (by omega) h1 h2 hok
        refine clP h152 (fun v M hq => ?_) (fun v M hq => ?_)
        · obtain ⟨V2, hv2, rfl, (⟨q, gl, lg, e, hq0, hl2, hq1, hq2, h8, hdr⟩ | ⟨e, h8⟩ | ⟨e, h8⟩)⟩ := hq
          · cases e
            obtain ⟨hc, bc, sc, lc⟩ := V2
            have hl2 : lc = some (gl, lg) := hl2
            subst hl2
            have hv := hv1.trans hv2
            have hsk : SK hc.r.g sc (some (gl, lg)) := (hv.ok.sk h8).1
            refine g_shp rfl (sel_ : Sel (ShC gs hc.r.g sc) _ _) fun hp => ?_
            have h153 := f153 (gs := gs) (g := hc.r.g) (s := sc) (cs := cs) (a := some ⟨ga, 0, none⟩) (c := cc) (q := q) hv.ok.g (by have := hp.le; have := hsk.r; omega) (by omega) (by rw [show hc.r.g = V.h.r.g from hv.mv.g]; exact w.cin) hq0 (fun n hn => (hsk.pin n).1 hn)
            refine W ?_
            refine g_ent rfl (show Ent _ [sv eCel 163 cs (some ⟨ga, 0, none⟩) cc, vtC gv gh gb gs (PP gl), huC gh gb hc, BenC gb bc, ShC gs hc.r.g sc, LogC gl gb lg, glC] from Ent.trans (Ent.sel (sel_ : Sel (rowc eCel 163 cs ga cc) _ _) (.refl _)) (ent_sv ent_)) ?_
            refine cl' h153 ?_
            rintro _ _ (⟨s1, hp1, rfl, rfl⟩ | ⟨d, hd, hlt, rfl, rfl⟩)
            · refine W ?_
              refine cv f79v ?_
              refine W ?_
              have hg : hc.r.g = V.h.r.g := hv.mv.g
              have hw : Wr hc.r.g C C' hc.r cs := by rw [hg]; exact w.up fun n hn => hv.mv.has _ _ (by have := k.g.m16; have := Geo.par_lt k.g n; omega) hn
              have hv3 := hv.trans (VS.put hv.ok h8 hp.lm hq0 hp1 hw ⟨hq1, hq2⟩)
              refine w_ends rfl (finN (fin0 rfl ⟨⟨hc, bc, s1.forget hc.r.g cs, some (gl, lg)⟩, rfl, .inl ⟨rfl, hv3.mono (by omega), h8⟩⟩ ent_))
            · exfalso
              have hs1 := (hv1.ok.sk h6).1
              have hd1 := hs1.dirL hv1.ok.g
              have := hfit rfl _ hd1
              have h3 := cpl_mono (l := cs.map Cel.s ++ d) (l' := cs.map Cel.s ++ (List.range V1.h.r.g.s).filter fun n => (V1.s.F n).drt) fun n hn => by
                rcases List.mem_append.1 hn with e | e
                · exact List.mem_append_left _ e
                · exact List.mem_append_right _ ((hd1.mem n).2 (hdr n ((hd.mem n).1 e)))
              have := hsk.r
              omega
          · cases e
          · cases e
        · obtain ⟨V2, hv2, rfl, (⟨q, gl, lg, e, hq0, hl2, hq1, hq2, h8, hdr⟩ | ⟨e, h8⟩ | ⟨e, h8⟩)⟩ := hq
          · cases e
          · cases e
            refine w_pan ?_
            exact finP ⟨V2, rfl, .inr ⟨(hv1.trans hv2).mono (by omega), .inl ⟨rfl, h8⟩⟩⟩ (Ent.sel sel_ (Ent.sel sel_ (Ent.sel sel_ (Ent.sel sel_ (Ent.sel sel_ (Ent.sel sel_ (Ent.trans (Ent.sel (sel_ : Sel (rowc eCel 163 cs ga cc) _ _) (.refl _)) (ent_sv ent_))))))))
          · cases e
            refine w_pan ?_
            exact finP ⟨V2, rfl, .inr ⟨(hv1.trans hv2).mono (by omega), .inr ⟨rfl, h8⟩⟩⟩ (Ent.sel sel_ (Ent.sel sel_ (Ent.sel sel_ (Ent.sel sel_ (Ent.sel sel_ (Ent.sel sel_ (Ent.trans (Ent.sel (sel_ : Sel (rowc eCel 163 cs ga cc) _ _) (.refl _)) (ent_sv ent_))))))))
      · cases e
      · cases e
    · obtain ⟨V1, hv1, rfl, (⟨e, h6, h7⟩ | ⟨e, h6⟩ | ⟨e, h6⟩), hfit⟩ := hq
      · cases e
      · cases e
        refine w_pan ?_
        exact finP ⟨V1, rfl, .inr ⟨hv1.mono (by omega), .inl ⟨rfl, h6⟩⟩⟩ ent_
      · cases e
        refine w_pan ?_
        exact finP ⟨V1, rfl, .inr ⟨hv1.mono (by omega), .inr ⟨rfl, h6⟩⟩⟩ ent_
end
end Go.Proofs.YtnilejkfbcnkkaaGreatDoor.V
end
section
set_option maxRecDepth 100000
set_option maxHeartbeats 1000000
namespace Go.Proofs.YtnilejkfbcnkkaaGreatDoor.V
variable [GlK]
open Go Go.RowKit

theorem blk0_get (i : Nat) (h : i < 64) : blk0[i] = 0 := by simp [blk0]
theorem xorb_comm (x y : Blk) : xorb x y = xorb y x := by
  refine Vector.ext fun i hi => ?_
  rw [xorb_get _ _ i hi, xorb_get _ _ i hi, UInt8.xor_comm]
theorem xorb_assoc (x y z : Blk) : xorb (xorb x y) z = xorb x (xorb y z) := by
  refine Vector.ext fun i hi => ?_
  rw [xorb_get _ _ i hi, xorb_get _ _ i hi, xorb_get _ _ i hi, xorb_get _ _ i hi, UInt8.xor_assoc]
theorem xorb_self (x : Blk) : xorb x x = blk0 := by
  refine Vector.ext fun i hi => ?_
  rw [xorb_get _ _ i hi, blk0_get i hi, UInt8.xor_self]
theorem xorb_zero (x : Blk) : xorb x blk0 = x := by
  refine Vector.ext fun i hi => ?_
  rw [xorb_get _ _ i hi, blk0_get i hi, UInt8.xor_zero]
attribute [local irreducible] xorb blk0
theorem zero_xorb (x : Blk) : xorb blk0 x = x := by rw [xorb_comm, xorb_zero]
theorem xorb_eq {x y : Blk} (h : xorb x y = blk0) : x = y := by
  have : xorb (xorb x y) y = xorb blk0 y := by rw [h]
  rw [xorb_assoc, xorb_self, xorb_zero, zero_xorb] at this
  exact this
theorem foldl_xorb : ∀ (l : List Blk) (a : Blk), l.foldl xorb a = xorb a (foldb l)
  | [], a => (xorb_zero a).symm
  | x :: l, a => by
    have h1 := foldl_xorb l (xorb a x)
    have h2 : foldb (x :: l) = xorb x (foldb l) := by
      show l.foldl xorb (xorb blk0 x) = _
      rw [zero_xorb, foldl_xorb l x]
    rw [h2, List.foldl_cons, h1, xorb_assoc]
theorem foldb_cons (x : Blk) (l : List Blk) : foldb (x :: l) = xorb x (foldb l) := by
  show l.foldl xorb (xorb blk0 x) = _
  rw [zero_xorb, foldl_xorb]
theorem foldb_nil : foldb [] = blk0 := rfl
theorem foldb_app (l m : List Blk) : foldb (l ++ m) = xorb (foldb l) (foldb m) := by
  induction l with
  | nil => rw [List.nil_append, foldb_nil, zero_xorb]
  | cons x l ih => rw [List.cons_append, foldb_cons, foldb_cons, ih, xorb_assoc]
theorem foldb_perm {l m : List Blk} (h : l.Perm m) : foldb l = foldb m := by
  induction h with
  | nil => rfl
  | cons x _ ih => rw [foldb_cons, foldb_cons, ih]
  | swap x y l => rw [foldb_cons, foldb_cons, foldb_cons, foldb_cons, ← xorb_assoc, xorb_comm y x, xorb_assoc]
  | trans _ _ h1 h2 => exact h1.trans h2
theorem oth_perm {M m : Nat} (hm : m < M) : (List.range M).Perm (m :: othM M m) := by
  have h1 : othM M m = (List.range M).erase m := by
    unfold othM
    rw [List.Nodup.erase_eq_filter List.nodup_range]
    refine List.filter_congr fun x _ => ?_
    by_cases e : x = m
    · subst e; simp
    · have e2 : (x : Int) ≠ (m : Int) := by omega
      rw [decide_eq_true e2]
      simp [e]
  rw [h1]
  exact List.perm_cons_erase (List.mem_range.2 hm)
/-- one of a stripe's cells is what the others come to -/
theorem foldb_oth {f : Nat → Blk} {M m : Nat} (hm : m < M) (h : foldb ((List.range M).map f) = blk0) : foldb ((othM M m).map f) = f m := by
  rw [foldb_perm ((oth_perm hm).map f), List.map_cons, foldb_cons] at h
  exact (xorb_eq h).symm
end Go.Proofs.YtnilejkfbcnkkaaGreatDoor.V
end
