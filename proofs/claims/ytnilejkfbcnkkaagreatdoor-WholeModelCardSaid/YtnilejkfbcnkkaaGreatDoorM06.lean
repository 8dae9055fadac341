/- Proved: the journal's small functions, and how steps run one behind the other; the journal's steps run; the journal's mark, a new journal, what is appended and cleared; the conditions stand in the statements. -/
import Derived.Test.YtnilejkfbcnkkaaGreatDoorM05
set_option linter.unusedVariables false
set_option linter.unusedSimpArgs false
set_option linter.unusedSectionVars false
section
set_option maxRecDepth 100000
namespace Go.Proofs.YtnilejkfbcnkkaaGreatDoor.V
variable [GlK]
open Go Go.RowKit
attribute [local irreducible] Yields cl blk pur rowc sv exC fo

/-- a note -/
structure No where
  q : Nat
  at_ : Nat
  k : Nat
  sum : Int
def eNo : Enc No := ⟨fun x => noL x.q x.at_ x.k x.sum, 4, fun _ => rfl, by simp [Value.oneCell'], by omega⟩
instance : EncV eNo (fun x => noL x.q x.at_ x.k x.sum) := ⟨rfl⟩
/-- a function that has caught something -/
structure Fnv where
  k : Nat
  fs : List Value
  cs : List Value
abbrev Fnv.v (f : Fnv) : Value := .func (.func f.k) f.fs.toArray f.cs.toArray
def eFn : Enc Fnv := ⟨fun f => [f.v], 1, fun _ => rfl, by simp [Value.oneCell'], by omega⟩
instance : EncV eFn (fun f => [f.v]) := ⟨rfl⟩
structure Lg where
  d : Nat
  id : Nat
  ring : Nat
  count : Nat
  first : Nat
  tail : Nat
  head : Nat
  live : List No
abbrev lgL (gb : Nat) (l : Lg) (al : Option Addr) (cp : Nat) : List Value := [PP gb, I l.d, U l.id, I l.ring, U l.count, U l.first, U l.tail, U l.head, .slice al l.live.length cp]
abbrev lgC (gl gb : Nat) (l : Lg) (al : Option Addr) (cp : Nat) : Chunk := cl gl (lgL gb l al cp) 185
structure LgOk (l : Lg) (k : Nat) : Prop where
  id : 0 < l.id
  r1 : 40 ≤ l.ring
  r2 : l.ring ≤ 256
  c1 : 1 ≤ l.count
  c2 : l.count ≤ k + 1
  f1 : 1 ≤ l.first
  f2 : l.first + l.live.length ≤ k + 1
  th : l.tail ≤ l.head
  hr : l.head - l.tail ≤ l.ring
  hk : l.head ≤ 64 * k
  n8 : l.live.length ≤ 8
  at_ : ∀ x ∈ l.live, l.tail ≤ x.at_ ∧ x.at_ ≤ l.head
  nil : l.live = [] → l.tail = l.head
  srt : l.live.Pairwise fun x y => x.at_ ≤ y.at_
theorem LgOk.mono {l : Lg} {k k' : Nat} (h : LgOk l k) (hk : k ≤ k') : LgOk l k' :=
  ⟨h.id, h.r1, h.r2, h.c1, by have := h.c2; omega, h.f1, by have := h.f2; omega, h.th, h.hr, by have := h.hk; omega, h.n8, h.at_, h.nil, h.srt⟩
def LogC (gl gb : Nat) (l : Lg) : Chunk := exC 31 (fun x : Option Addr × Nat => [lgC gl gb l x.1 x.2, sv eNo 265 l.live x.1 x.2])
/-- one device has turned, but it is as large, and as dead -/
structure LE (d : Nat) (n : Nat) (b b' : Ben) : Prop where
  h : ∃ dv dv', b.ds[d]? = some dv ∧ b'.ds = b.ds.set d dv' ∧ dv'.n = dv.n ∧ dv'.dead = dv.dead
  k1 : b.k ≤ b'.k
  k2 : b'.k ≤ b.k + n
theorem LE.dev {d n : Nat} {b b' : Ben} (h : LE d n b b') {dv : Dev} (hd : b.ds[d]? = some dv) : ∃ dv', b'.ds[d]? = some dv' ∧ dv'.n = dv.n ∧ dv'.dead = dv.dead := by
  obtain ⟨x, y, h1, h2, h3, h4⟩ := h.h
  rw [hd] at h1; cases h1
  have := (List.getElem?_eq_some_iff.1 hd).1
  exact ⟨y, by rw [h2]; simp [this], h3, h4⟩
theorem LE.refl {d n : Nat} {b : Ben} {dv : Dev} (hd : b.ds[d]? = some dv) : LE d n b b := by
  obtain ⟨h1, rfl⟩ := List.getElem?_eq_some_iff.1 hd
  exact ⟨⟨_, _, hd, by simp, rfl, rfl⟩, Nat.le_refl _, by omega⟩
theorem LE.trans {d n m : Nat} {b b' b'' : Ben} (h : LE d n b b') (h' : LE d m b' b'') : LE d (n + m) b b'' := by
  obtain ⟨x, y, h1, h2, h3, h4⟩ := h.h
  obtain ⟨x', y', h1', h2', h3', h4'⟩ := h'.h
  have hlt := (List.getElem?_eq_some_iff.1 h1).1
  have : x' = y := by rw [h2] at h1'; simp [hlt] at h1'; exact h1'.symm
  subst this
  exact ⟨⟨x, y', h1, by rw [h2', h2]; simp, h3'.trans h3, h4'.trans h4⟩, Nat.le_trans h.k1 h'.k1, by have := h.k2; have := h'.k2; omega⟩
theorem LE.mono {d n m : Nat} {b b' : Ben} (h : LE d n b b') (hm : n ≤ m) : LE d m b b' := ⟨h.h, h.k1, by have := h.k2; omega⟩
theorem LE.other {d n i : Nat} {b b' : Ben} (h : LE d n b b') (hi : i ≠ d) : b'.ds[i]? = b.ds[i]? := by
  obtain ⟨x, y, h1, h2, _⟩ := h.h
  rw [h2, List.getElem?_set_ne (Ne.symm hi)]
theorem LE.len {d n : Nat} {b b' : Ben} (h : LE d n b b') : b'.ds.length = b.ds.length := by
  obtain ⟨x, y, h1, h2, _⟩ := h.h
  rw [h2]; simp

section
variable {gl gb : Nat} {l : Lg} {al : Option Addr} {cp : Nat}
theorem f163 : CtV Tryz.prog 163 [PP gl] [lgC gl gb l al cp] (.bool false) := by
  refine w_ct Tryz.func163 rfl Tryz.ntmps163 rfl fun w B => ?_
  refine W ?_
  exact fin ⟨_, rfl, rfl, rfl⟩
theorem f164 (h : l.first + l.live.length ≤ 1099511627777) : CtV Tryz.prog 164 [PP gl] [lgC gl gb l al cp] (U (l.first + l.live.length)) := by
  refine w_ct Tryz.func164 rfl Tryz.ntmps164 rfl fun w B => ?_
  refine W ?_
  exact fin (v := .int .u64 ((l.first : Int) + l.live.length)) ⟨_, rfl, ie (by omega), rfl⟩
theorem f131 {b : Ben} {d n : Nat} {dv : Dev} (hd : b.ds[d]? = some dv) : CtV Tryz.prog 131 [PP gb, I d, I n] [BenC gb b] (if n ≤ dv.n then I 0 else I 2) := by
  refine w_ct Tryz.func131 rfl Tryz.ntmps131 rfl fun w B => ?_
  have hlt := (List.getElem?_eq_some_iff.1 hd).1
  refine W ?_
  refine cv (f80 hd) ?_
  rw [show ((b.ds.length : Nat) : Int) = (b.ds.length : Int) from rfl]
  refine W ?_
  rw [decide_eq_false (show ¬ ((b.ds.length : Int) = 0) by omega)]
  refine W ?_
  rw [decide_eq_false (show ¬ ((d : Int) < 0) by omega)]
  refine W ?_
  refine cv (f80 hd) ?_
  refine W ?_
  rw [decide_eq_false (show ¬ ((b.ds.length : Int) ≤ d) by omega)]
  refine W ?_
  refine cv (f128 hd) ?_
  refine W ?_
  by_cases h : n ≤ dv.n
  · rw [decide_eq_false (show ¬ ((dv.n : Int) < n) by omega), if_pos h]
    refine W ?_
    exact fin ⟨_, rfl, rfl, rfl⟩
  · rw [decide_eq_true (show ((dv.n : Int) < n) by omega), if_neg h]
    refine W ?_
    exact fin ⟨_, rfl, rfl, rfl⟩
/-- a step that writes: what it has caught -/
def wrC (gl : Nat) (n : Nat) (f : Fnv) : Chunk := exC 32 (fun x : Nat × Nat × Nat × Blk => [pur (f = ⟨192, [], [PP x.1, PP x.2.1, PP x.2.2.1]⟩), cl x.1 [PP gl] 85, cl x.2.1 [I n] 3, cl x.2.2.1 (bl x.2.2.2) 51])
theorem f132 {n : Nat} {x : Blk} : Ct Tryz.prog 132 [PP gl, I n, BV x] [] (fun v L => ∃ f : Fnv, v = f.v ∧ f.k = 192 ∧ L = [wrC gl n f]) := by
  refine w_ct Tryz.func132 rfl Tryz.ntmps132 rfl fun w B => ?_
  refine W3 fun g1 g2 g3 => ?_
  exact finE ⟨_, rfl, ⟨192, [], [PP g1, PP g2, PP g3]⟩, rfl, rfl, rfl⟩ (ent_ex (g1, g2, g3, x) (ent_pur rfl ent_))
theorem f192 {b : Ben} {n : Nat} {x : Blk} {dv : Dev} {g1 g2 g3 : Nat} (hd : b.ds[l.d]? = some dv) (hn : n < dv.n) (hk : b.k < 1099511627776) :
    Ct Tryz.prog 192 [PP g1, PP g2, PP g3] [cl g1 [PP gl] 85, cl g2 [I n] 3, cl g3 (bl x) 51, lgC gl gb l al cp, BenC gb b]
      (fun v L => (dv.dead = true ∧ v = I 9 ∧ L = [cl g1 [PP gl] 85, cl g2 [I n] 3, cl g3 (bl x) 51, lgC gl gb l al cp, BenC gb b]) ∨ (dv.dead = false ∧ v = I 0 ∧ L = [cl g1 [PP gl] 85, cl g2 [I n] 3, cl g3 (bl x) 51, lgC gl gb l al cp, BenC gb ⟨b.ds.set l.d (dv.set n x), b.k + 1⟩])) := by
  refine w_ct Tryz.func192 rfl Tryz.ntmps192 rfl fun w B => ?_
  refine W ?_
  refine cl' (f129 (x := x) hd hn hk) ?_
  rintro _ _ (⟨h1, rfl, rfl⟩ | ⟨h1, rfl, rfl⟩)
  · refine W ?_
    exact fin ⟨_, rfl, .inl ⟨h1, rfl, rfl⟩⟩
  · refine W ?_
    exact fin ⟨_, rfl, .inr ⟨h1, rfl, rfl⟩⟩
theorem f133 {b : Ben} {dv : Dev} (hd : b.ds[l.d]? = some dv) (hn : 0 < dv.n) (hk : b.k < 1099511627776) :
    Ct Tryz.prog 133 [PP gl] [lgC gl gb l al cp, BenC gb b]
      (fun v L => (dv.dead = true ∧ v = I 9 ∧ L = [lgC gl gb l al cp, BenC gb b]) ∨ (dv.dead = false ∧ v = I 0 ∧ L = [lgC gl gb l al cp, BenC gb ⟨b.ds, b.k + 1⟩])) := by
  refine w_ct Tryz.func133 rfl Tryz.ntmps133 rfl fun w B => ?_
  refine W ?_
  refine cl' (f130 hd hk hn) ?_
  rintro _ _ (⟨h1, rfl, rfl⟩ | ⟨h1, rfl, rfl⟩)
  · refine W ?_
    exact fin ⟨_, rfl, .inl ⟨h1, rfl, rfl⟩⟩
  · refine W ?_
    exact fin ⟨_, rfl, .inr ⟨h1, rfl, rfl⟩⟩
end
/-- steps one behind the other, up to the first that is refused -/
theorem f136 {vs : List Fnv} {g c : Nat} {σ : Type} {HP : σ → Hp} {J : Nat → σ → Prop} {X : σ → Prop}
    (hs : ∀ j (hj : j < vs.length) s, J j s → BD Tryz.prog vs[j].k ∧ Ct Tryz.prog vs[j].k (vs[j].fs ++ [] ++ vs[j].cs) (HP s) (fun v L => ∃ s', L = HP s' ∧ ((v = I 0 ∧ J (j + 1) s') ∨ (v = I 9 ∧ X s')))) {s0 : σ} (h0 : J 0 s0) (hl : vs.length ≤ 1000) :
    Ct Tryz.prog 136 [SL g vs.length c] (rowc eFn 48 vs g c :: HP s0) (fun v L => ∃ s', L = HP s' ∧ ((v = I 0 ∧ J vs.length s') ∨ (v = I 9 ∧ X s'))) := by
  refine w_ct Tryz.func136 rfl Tryz.ntmps136 rfl fun w B => ?_
  refine W ?_
  refine w_loop (γ := Nat × σ) (fun ⟨j, s⟩ => [(6, SL g vs.length c), (7, I vs.length), (8, I j)]) (fun ⟨j, s⟩ => rowc eFn 48 vs g c :: HP s) (fun x => x.1 ≤ vs.length ∧ J x.1 x.2) (fun x => vs.length - x.1) (0, s0) sl_ ent_ ⟨Nat.zero_le _, h0⟩ fun ⟨j, s⟩ B ⟨hj, hJ⟩ => ?_
  dsimp only at hj hJ ⊢
  refine W ?_
  refine w_if rfl (fun h => ?_) (fun h => ?_)
  · have hlt : j < vs.length := by omega
    obtain ⟨hb, hc⟩ := hs j hlt s hJ
    refine W ?_
    refine cx (hb := hb) (K := [rowc eFn 48 vs g c]) hc ?_ (hp := (List.perm_append_singleton _ _).symm)
    rintro _ _ ⟨s', rfl, (⟨rfl, h2⟩ | ⟨rfl, h2⟩)⟩
    · refine W ?_
      exact w_land rfl (w_round (j + 1, s') ⟨hlt, h2⟩ (by show vs.length - (j + 1) < vs.length - j; omega) sl_ (Ent.perm (List.perm_append_singleton _ _)))
    · refine W ?_
      exact finE ⟨_, rfl, s', rfl, .inr ⟨rfl, h2⟩⟩ ((Ent.perm (List.perm_append_singleton _ _)).trans (by intro Bs hB; obtain ⟨B1, B2, rfl, h1, h2⟩ := hB; exact ⟨B2, B1, List.perm_append_comm, h2⟩))
  · have hjj : j = vs.length := by omega
    subst hjj
    refine W ?_
    exact finE ⟨_, rfl, s, rfl, .inl ⟨rfl, hJ⟩⟩ (by intro Bs hB; obtain ⟨B1, B2, rfl, h1, h2⟩ := hB; exact ⟨B2, B1, List.perm_append_comm, h2⟩)
end Go.Proofs.YtnilejkfbcnkkaaGreatDoor.V
end
section
set_option maxRecDepth 100000
namespace Go.Proofs.YtnilejkfbcnkkaaGreatDoor.V
variable [GlK]
open Go Go.RowKit
attribute [local irreducible] Yields cl blk pur rowc sv exC fo

theorem CtP.open_ {P : Program} {f : FuncId} {vs : List Value} {γ : Type} {C : Chunk} {M : γ → Hp} {K : Hp} {Q : Out → Hp → Prop} (ho : Opens C M) (h : ∀ x, CtP P f vs (M x ++ K) Q) : CtP P f vs (C :: K) Q := by
  rintro w B ⟨B1, B2, rfl, h1, h2⟩ hat
  obtain ⟨x, hx⟩ := ho _ h1
  exact h x w _ (Sat.app.2 ⟨_, _, rfl, hx, h2⟩) hat
theorem CtP.ex {P : Program} {f : FuncId} {vs : List Value} {γ : Type} {tag : Nat} {M : γ → Hp} {K : Hp} {Q : Out → Hp → Prop} (h : ∀ x, CtP P f vs (M x ++ K) Q) : CtP P f vs (exC tag M :: K) Q := CtP.open_ exC_opens h
theorem CtP.pur_ {P : Program} {f : FuncId} {vs : List Value} {φ : Prop} {K : Hp} {Q : Out → Hp → Prop} (h : φ → CtP P f vs K Q) : CtP P f vs (pur φ :: K) Q := by
  rintro w B ⟨B1, B2, rfl, h1, h2⟩ hat
  unfold pur at h1
  obtain ⟨hφ, rfl⟩ := h1
  exact h hφ w _ h2 hat
theorem Ct.pre {P : Program} {f : FuncId} {vs : List Value} {L L' : Hp} {Q : Value → Hp → Prop} (hc : Ct P f vs L' Q) (he : Ent L L') : Ct P f vs L Q := by
  have := Ct.frame (K := []) hc (by simpa using he)
  exact this.mono fun v M ⟨M0, h1, h2⟩ => by rw [h2, List.append_nil]; exact h1

inductive Stp where
  | wr (n : Nat)
  | fl
  | mk
def Stp.k : Stp → Nat
  | .wr _ => 192
  | .fl => 133
  | .mk => 134
def stC (gl : Nat) : Stp → Fnv → Chunk
  | .wr n, f => wrC gl n f
  | .fl, f => pur (f = ⟨133, [PP gl], []⟩)
  | .mk, f => exC 35 (fun g : Nat => [pur (f = ⟨134, [], [PP g]⟩), cl g [PP gl] 85])
def StsC (gl : Nat) (ss : List Stp) (vs : List Fnv) : Chunk := exC 33 (fun _ : Unit => List.zipWith (stC gl) ss vs)
def RstC (gl : Nat) (ss : List Stp) (vs : List Fnv) (j : Nat) : Chunk := exC 34 (fun _ : Unit => (List.zipWith (stC gl) ss vs).eraseIdx j)
theorem sts_split {gl j : Nat} {ss : List Stp} {vs : List Fnv} {s : Stp} {f : Fnv} (hs : ss[j]? = some s) (hf : vs[j]? = some f) : (List.zipWith (stC gl) ss vs).Perm (stC gl s f :: (List.zipWith (stC gl) ss vs).eraseIdx j) :=
  perm_erase (by simp [List.getElem?_zipWith, hs, hf])
theorem ent_exU {tag : Nat} {M : Unit → Hp} {L K : Hp} (h : Ent L (exC tag M :: K)) : Ent L (M () ++ K) := h.trans (by
  intro B hB
  obtain ⟨B1, B2, rfl, hr, h2⟩ := hB
  unfold exC at hr
  obtain ⟨_, hr⟩ := hr
  exact ⟨B1 ++ B2, [], by simp, Sat.app.2 ⟨B1, B2, rfl, hr, h2⟩⟩)
theorem ent_sts {gl j : Nat} {ss : List Stp} {vs : List Fnv} {s : Stp} {f : Fnv} (hs : ss[j]? = some s) (hf : vs[j]? = some f) {K : Hp} : Ent (StsC gl ss vs :: K) (stC gl s f :: RstC gl ss vs j :: K) := by
  refine (ent_exU (Ent.refl _)).trans ?_
  refine (Ent.perm ((sts_split hs hf).append_right K)).trans ?_
  refine Ent.cons _ ?_
  exact ent_ex () (.refl _)
theorem ent_sts' {gl j : Nat} {ss : List Stp} {vs : List Fnv} {s : Stp} {f : Fnv} (hs : ss[j]? = some s) (hf : vs[j]? = some f) {K : Hp} : Ent (stC gl s f :: RstC gl ss vs j :: K) (StsC gl ss vs :: K) := by
  refine ent_ex () ?_
  refine Ent.trans ?_ (Ent.perm ((sts_split hs hf).append_right K).symm)
  exact Ent.cons _ (ent_exU (Ent.refl _))
theorem StsC_nil {gl : Nat} {L K : Hp} (h : Ent L K) : Ent L (StsC gl [] [] :: K) := ent_ex () (by simpa using h)
theorem StsC_snoc {gl : Nat} {ss : List Stp} {vs : List Fnv} {s : Stp} {f : Fnv} (hl : ss.length = vs.length) {K : Hp} : Ent (stC gl s f :: StsC gl ss vs :: K) (StsC gl (ss ++ [s]) (vs ++ [f]) :: K) := by
  refine ent_ex () ?_
  have : List.zipWith (stC gl) (ss ++ [s]) (vs ++ [f]) = List.zipWith (stC gl) ss vs ++ [stC gl s f] := by rw [List.zipWith_append hl]; rfl
  rw [this]
  refine (Ent.cons _ (ent_exU (Ent.refl _))).trans (Ent.perm ?_)
  simp only [List.append_assoc, List.singleton_append]
  exact List.perm_middle.symm

section
variable {gl gb : Nat} {l : Lg} {al : Option Addr} {cp : Nat} {dv : Dev}
/-- what a step does -/
def StepQ (l : Lg) (dv : Dev) (c : Nat) (b : Ben) (HP : Ben → Hp) : Value → Hp → Prop := fun v L => ∃ b', L = HP b' ∧ LE l.d c b b' ∧ ((v = I 9 ∧ dv.dead = true) ∨ (v = I 0 ∧ dv.dead = false ∧ b.k + 1 ≤ b'.k))
theorem dev_set_le {b : Ben} {d c : Nat} {x : Dev} (hc : 1 ≤ c) (hd : b.ds[d]? = some x) (hx : x.n = dv.n ∧ x.dead = dv.dead) (n : Nat) (y : Blk)   : LE d c b ⟨b.ds.set d (x.set n y), b.k + 1⟩ :=
  ⟨⟨x, x.set n y, hd, rfl, rfl, rfl⟩, by show b.k ≤ b.k + 1; omega, by show b.k + 1 ≤ b.k + c; omega⟩
theorem step_wr {b : Ben} {n c : Nat} (hc : 1 ≤ c) {f : Fnv} {x : Dev} (hd : b.ds[l.d]? = some x) (hx : x.n = dv.n ∧ x.dead = dv.dead) (hn : n < dv.n) (hk : b.k < 1099511627776) (hf : f.k = 192) :
    Ct Tryz.prog f.k (f.fs ++ [] ++ f.cs) [stC gl (.wr n) f, lgC gl gb l al cp, BenC gb b, glC] (StepQ l dv c b fun b' => [stC gl (.wr n) f, lgC gl gb l al cp, BenC gb b', glC]) := by
  refine CtP.ex fun ⟨g1, g2, g3, y⟩ => ?_
  refine CtP.pur_ fun e => ?_
  subst e
  refine Ct.ent (Ct.frame (K := [glC]) (f192 (x := y) (g1 := g1) (g2 := g2) (g3 := g3) (l := l) (al := al) (cp := cp) (gl := gl) (gb := gb) hd (by rw [hx.1]; exact hn) hk) ent_) ?_
  rintro _ _ ⟨_, (⟨h1, rfl, rfl⟩ | ⟨h1, rfl, rfl⟩), rfl⟩
  · exact ⟨_, ⟨b, rfl, LE.refl hd, .inl ⟨rfl, hx.2 ▸ h1⟩⟩, ent_ex (g1, g2, g3, y) (ent_pur rfl ent_)⟩
  · exact ⟨_, ⟨_, rfl, dev_set_le hc hd hx n y, .inr ⟨rfl, hx.2 ▸ h1, Nat.le_refl _⟩⟩, ent_ex (g1, g2, g3, y) (ent_pur rfl ent_)⟩
theorem step_fl {b : Ben} {c : Nat} (hc : 1 ≤ c) {f : Fnv} {x : Dev} (hd : b.ds[l.d]? = some x) (hx : x.n = dv.n ∧ x.dead = dv.dead) (hn : 0 < dv.n) (hk : b.k < 1099511627776) (hf : f.k = 133) :
    Ct Tryz.prog f.k (f.fs ++ [] ++ f.cs) [stC gl .fl f, lgC gl gb l al cp, BenC gb b, glC] (StepQ l dv c b fun b' => [stC gl .fl f, lgC gl gb l al cp, BenC gb b', glC]) := by
  refine CtP.pur_ fun e => ?_
  subst e
  refine Ct.ent (Ct.frame (K := [glC]) (f133 (l := l) (al := al) (cp := cp) (gl := gl) (gb := gb) hd (by rw [hx.1]; exact hn) hk) ent_) ?_
  rintro _ _ ⟨_, (⟨h1, rfl, rfl⟩ | ⟨h1, rfl, rfl⟩), rfl⟩
  · exact ⟨_, ⟨b, rfl, LE.refl hd, .inl ⟨rfl, hx.2 ▸ h1⟩⟩, ent_pur rfl ent_⟩
  · refine ⟨_, ⟨⟨b.ds, b.k + 1⟩, rfl, ?_, .inr ⟨rfl, hx.2 ▸ h1, Nat.le_refl _⟩⟩, ent_pur rfl ent_⟩
    obtain ⟨h2, rfl⟩ := List.getElem?_eq_some_iff.1 hd
    exact ⟨⟨_, _, hd, by simp, rfl, rfl⟩, by show b.k ≤ b.k + 1; omega, by show b.k + 1 ≤ b.k + c; omega⟩
theorem bd_stp (s : Stp) : BD Tryz.prog s.k := by cases s <;> unfold Stp.k <;> infer_instance
/-- steps one behind the other -/
theorem f136s {b : Ben} {ss : List Stp} {vs : List Fnv} {g c m Kb : Nat} (hv : vs.map (·.k) = ss.map Stp.k) (hd : b.ds[l.d]? = some dv) (hne : ss ≠ []) (hlen : ss.length ≤ 500) (hk : b.k + m * ss.length < Kb)
    (hst : ∀ s ∈ ss, ∀ (f : Fnv) (b' : Ben), f.k = s.k → (∃ x, b'.ds[l.d]? = some x ∧ x.n = dv.n ∧ x.dead = dv.dead) → b'.k < Kb → Ct Tryz.prog f.k (f.fs ++ [] ++ f.cs) [stC gl s f, lgC gl gb l al cp, BenC gb b', glC] (StepQ l dv m b' fun b'' => [stC gl s f, lgC gl gb l al cp, BenC gb b'', glC])) :
    Ct Tryz.prog 136 [SL g vs.length c] [rowc eFn 48 vs g c, lgC gl gb l al cp, BenC gb b, glC, StsC gl ss vs]
      (fun v L => ∃ b', L = [lgC gl gb l al cp, BenC gb b', glC, StsC gl ss vs] ∧ LE l.d (m * ss.length) b b' ∧ ((v = I 9 ∧ dv.dead = true) ∨ (v = I 0 ∧ dv.dead = false ∧ b.k + ss.length ≤ b'.k))) := by
  have hvl : vs.length = ss.length := by simpa using congrArg List.length hv
  have hlt := (List.getElem?_eq_some_iff.1 hd).1
  refine Ct.ent (f136 (σ := Ben) (HP := fun b' => [lgC gl gb l al cp, BenC gb b', glC, StsC gl ss vs]) (J := fun j b' => LE l.d (m * j) b b' ∧ b.k + j ≤ b'.k ∧ (0 < j → dv.dead = false)) (X := fun b' => LE l.d (m * ss.length) b b' ∧ dv.dead = true) (fun j hj b' ⟨h1, h2, h3⟩ => ?_) (s0 := b) ⟨LE.refl hd, by omega, fun h => absurd h (by omega)⟩ (by omega)) ?_
  · have hj' : j < ss.length := by omega
    have e1 : vs[j].k = ss[j].k := by
      have : (vs.map (·.k))[j]? = (ss.map Stp.k)[j]? := by rw [hv]
      simpa [hj, hj'] using this
    refine ⟨by rw [e1]; exact bd_stp _, ?_⟩
    have hk2 := h1.k2
    have hmj : m * j ≤ m * ss.length := Nat.mul_le_mul_left _ (by omega)
    have := Ct.frame (K := [RstC gl ss vs j]) (L := [lgC gl gb l al cp, BenC gb b', glC, StsC gl ss vs]) (hst ss[j] (List.getElem_mem hj') vs[j] b' e1 (h1.dev hd) (by omega))
      ((Ent.perm (show List.Perm _ [StsC gl ss vs, lgC gl gb l al cp, BenC gb b', glC] from ((List.perm_append_comm (l₁ := [lgC gl gb l al cp, BenC gb b', glC]) (l₂ := [StsC gl ss vs]))))).trans ((ent_sts (List.getElem?_eq_getElem hj') (List.getElem?_eq_getElem hj)).trans (Ent.cons _ (Ent.perm (List.perm_append_comm (l₁ := [RstC gl ss vs j]) (l₂ := [lgC gl gb l al cp, BenC gb b', glC]))))))
    refine Ct.ent this ?_
    rintro v _ ⟨_, ⟨b'', rfl, h4, h5⟩, rfl⟩
    refine ⟨_, ⟨b'', rfl, ?_⟩, (Ent.cons _ (Ent.perm (List.perm_append_comm (l₁ := [lgC gl gb l al cp, BenC gb b'', glC]) (l₂ := [RstC gl ss vs j])))).trans ((ent_sts' (List.getElem?_eq_getElem hj') (List.getElem?_eq_getElem hj)).trans (Ent.perm (List.perm_append_comm (l₁ := [StsC gl ss vs]) (l₂ := [lgC gl gb l al cp, BenC gb b'', glC]))))⟩
    have hle : LE l.d (m * (j + 1)) b b'' := (h1.trans h4).mono (by rw [Nat.mul_succ]; omega)
    have hmj1 : m * (j + 1) ≤ m * ss.length := Nat.mul_le_mul_left _ (by omega)
    rcases h5 with ⟨rfl, h5⟩ | ⟨rfl, h5, h6⟩
    · exact .inr ⟨rfl, hle.mono hmj1, h5⟩
    · exact .inl ⟨rfl, hle, by omega, fun _ => h5⟩
  · rintro v _ ⟨b', rfl, (⟨rfl, h1, h2, h3⟩ | ⟨rfl, h1, h2⟩)⟩
    · have hpos : 0 < ss.length := List.length_pos_iff.2 hne
      exact ⟨_, ⟨b', rfl, by rw [← hvl]; exact h1, .inr ⟨rfl, h3 (by omega), by omega⟩⟩, ent_⟩
    · exact ⟨_, ⟨b', rfl, h1, .inl ⟨rfl, h2⟩⟩, ent_⟩
end
end Go.Proofs.YtnilejkfbcnkkaaGreatDoor.V
end
section
set_option maxRecDepth 100000
set_option maxHeartbeats 4000000
namespace Go.Proofs.YtnilejkfbcnkkaaGreatDoor.V
variable [GlK]
open Go Go.RowKit
attribute [local irreducible] Yields cl blk pur rowc sv exC fo

section
variable {gl gb : Nat} {l : Lg} {al : Option Addr} {cp : Nat} {dv : Dev} {b : Ben}
theorem f135 {count first at_ : Nat} (hd : b.ds[l.d]? = some dv) (hn : 2 ≤ dv.n) (hk : b.k < 1099511626990) (hc : 1 ≤ count) (hc' : count ≤ 2305843009213693952) (h0 : 0 < l.id) (h1 : 40 ≤ l.ring) (h2 : l.ring ≤ 256) (h3 : 1 ≤ first) (h4 : first ≤ 2305843009213693952) (h5 : at_ ≤ 2305843009213693952) :
    Ct Tryz.prog 135 [PP gl, U count, U first, U at_] [lgC gl gb l al cp, BenC gb b, glC] (fun v L => ∃ b', L = [lgC gl gb l al cp, BenC gb b', glC] ∧ LE l.d 2 b b' ∧ ((v = I 9 ∧ dv.dead = true) ∨ (v = I 0 ∧ dv.dead = false ∧ b.k + 1 ≤ b'.k))) := by
  refine w_ct Tryz.func135 rfl Tryz.ntmps135 rfl fun w B => ?_
  refine W ?_
  refine w_dag [.q 0, .q 1, .q 2, .q 3, .q 4, .q 5, .q 6, .q 7, .q 8, .q 9, .q 10, .q 11, .f 16, .m 12 [], .q 13, .q 14, .q 15, .a 16, .m 17 [15], .q 18] (by decide +kernel) ?_
  refine W ?_
  refine dm fun E => ?_
  refine cl' (f193 hc hc' h0 h1 h2 h3 h4 h5) ?_
  rintro _ _ ⟨⟨x, e, rfl⟩, rfl⟩
  refine W1 fun g9 => ?_
  refine cv (f194 (count := count)) ?_
  refine W ?_
  refine cl' (f132 (gl := gl) (n := count % 2) (x := x)) ?_
  rintro _ _ ⟨f, rfl, hf, rfl⟩
  refine W ?_
  refine w_bs2 eFn f ⟨133, [PP gl], []⟩ rfl rfl rfl rfl rfl (by decide) fun g => ?_
  refine W ?_
  have hst : ∀ s ∈ [Stp.wr (count % 2), Stp.fl], ∀ (f : Fnv) (b' : Ben), f.k = s.k → (∃ x, b'.ds[l.d]? = some x ∧ x.n = dv.n ∧ x.dead = dv.dead) → b'.k < 1099511627000 → Ct Tryz.prog f.k (f.fs ++ [] ++ f.cs) [stC gl s f, lgC gl gb l al cp, BenC gb b', glC] (StepQ l dv 1 b' fun b'' => [stC gl s f, lgC gl gb l al cp, BenC gb b'', glC]) := by
    rintro s hs f' b' hf' ⟨y, hy1, hy2⟩ hk'
    simp only [List.mem_cons, List.not_mem_nil, or_false] at hs
    rcases hs with rfl | rfl
    · exact step_wr (Nat.le_refl 1) hy1 hy2 (by omega) (by omega) hf'
    · exact step_fl (Nat.le_refl 1) hy1 hy2 (by omega) (by omega) hf'
  refine g_ent rfl (Ent.sel sel_ (Ent.sel sel_ (Ent.sel sel_ (Ent.sel sel_ (ent_ex () (show Ent _ ([wrC gl (count % 2) f, pur ((⟨133, [PP gl], []⟩ : Fnv) = ⟨133, [PP gl], []⟩)] ++ [cl g9 (bl x) 51]) from Ent.sel sel_ (ent_pur rfl ent_)))))) : Ent _ [rowc eFn 48 [f, ⟨133, [PP gl], []⟩] g 2, lgC gl gb l al cp, BenC gb b, glC, StsC gl [.wr (count % 2), .fl] [f, ⟨133, [PP gl], []⟩], cl g9 (bl x) 51]) ?_
  refine cl' (f136s (m := 1) (Kb := 1099511627000) (ss := [.wr (count % 2), .fl]) (vs := [f, ⟨133, [PP gl], []⟩]) (by simp [hf, Stp.k]) hd (by simp) (by simp) (by simp; omega) hst) ?_
  rintro _ _ ⟨b', rfl, hle, (⟨rfl, h⟩ | ⟨rfl, h, hk2⟩)⟩
  · refine W ?_
    exact fin ⟨_, rfl, b', rfl, hle, .inl ⟨rfl, h⟩⟩
  · refine W ?_
    simp only [List.length_cons, List.length_nil] at hk2
    exact fin ⟨_, rfl, b', rfl, hle, .inr ⟨rfl, h, by omega⟩⟩
theorem step_mk {b : Ben} {f : Fnv} {x : Dev} (hd : b.ds[l.d]? = some x) (hx : x.n = dv.n ∧ x.dead = dv.dead) (hn : 2 ≤ dv.n) (hk : b.k < 1099511626990) (h0 : 0 < l.id) (h1 : 40 ≤ l.ring) (h2 : l.ring ≤ 256) (hf : f.k = 134) :
    Ct Tryz.prog f.k (f.fs ++ [] ++ f.cs) [stC gl .mk f, lgC gl gb l al cp, BenC gb b, glC] (StepQ l dv 2 b fun b' => [stC gl .mk f, lgC gl gb l al cp, BenC gb b', glC]) := by
  refine CtP.ex fun g => ?_
  refine CtP.pur_ fun e => ?_
  subst e
  have key : Ct Tryz.prog 134 [PP g] [cl g [PP gl] 85, lgC gl gb l al cp, BenC gb b, glC] (StepQ l dv 2 b fun b' => [cl g [PP gl] 85, lgC gl gb l al cp, BenC gb b', glC]) := by
    refine w_ct Tryz.func134 rfl Tryz.ntmps134 rfl fun w B => ?_
    refine W ?_
    refine cl' (f135 (count := 1) (first := 1) (at_ := 0) hd (by omega) hk (by omega) (by omega) h0 h1 h2 (by omega) (by omega) (by omega)) ?_
    rintro _ _ ⟨b', rfl, hle, (⟨rfl, h⟩ | ⟨rfl, h, hk2⟩)⟩
    · refine W ?_
      exact fin ⟨_, rfl, b', rfl, hle, .inl ⟨rfl, hx.2 ▸ h⟩⟩
    · refine W ?_
      exact fin ⟨_, rfl, b', rfl, hle, .inr ⟨rfl, hx.2 ▸ h, hk2⟩⟩
  refine Ct.ent key ?_
  rintro v _ ⟨b', rfl, h⟩
  exact ⟨_, ⟨b', rfl, h⟩, ent_ex g (ent_pur rfl ent_)⟩
def fresLg (d id ring : Nat) : Lg := ⟨d, id, ring, 1, 1, 0, 0, []⟩
/-- a new journal -/
theorem f85 {d id ring : Nat} (hd : b.ds[d]? = some dv) (hn : 10 + ring ≤ dv.n) (hk : b.k < 1099511626000) (h0 : 0 < id) (h1 : 40 ≤ ring) (h2 : ring ≤ 256) :
    Ct Tryz.prog 85 [PP gb, I d, U id, I ring] [BenC gb b, glC] (fun v L => ∃ b', LE d 24 b b' ∧ ((∃ x, v = T [x, I 9] ∧ dv.dead = true ∧ L = [BenC gb b', glC]) ∨ (∃ gl, v = T [PP gl, I 0] ∧ dv.dead = false ∧ b.k + 12 ≤ b'.k ∧ L = [BenC gb b', glC, LogC gl gb (fresLg d id ring)]))) := by
  refine w_ct Tryz.func85 rfl Tryz.ntmps85 rfl fun w B => ?_
  refine W ?_
  refine w_y rfl rfl rfl (y_max (c := (ring : Int)) rfl rfl (by omega)) ?_
  refine W ?_
  have h131 : CtV Tryz.prog 131 [PP gb, I d, .int .i64 ((10 : Int) + (ring : Int))] [BenC gb b] (if 10 + ring ≤ dv.n then I 0 else I 2) := by
    have := f131 (gb := gb) (n := 10 + ring) hd
    rwa [show ((10 + ring : Nat) : Int) = (10 : Int) + (ring : Int) by omega] at this
  refine cv h131 ?_
  rw [if_pos hn]
  refine W ?_
  rw [decide_eq_false (show ¬ ((id : Int) = 0) by omega)]
  refine W ?_
  rw [decide_eq_false (show ¬ ((ring : Int) < 40) by omega)]
  refine W ?_
  rw [decide_eq_false (show ¬ ((256 : Int) < ring) by omega)]
  refine W2 fun gl g11 => ?_
  have hlg : cl gl [PP gb, I d, U id, I ring, .int .u64 1, .int .u64 1, .int .u64 0, .int .u64 0, .slice none 0 0] 185 = lgC gl gb (fresLg d id ring) none 0 := rfl
  generalize hls : fresLg d id ring = ls at hlg
  refine g_nil eFn 48 rfl ?_
  refine w_loop (γ := Nat × List Fnv × Option Addr × Nat) (fun ⟨j, vs, a, c⟩ => [(11, PP g11), (12, .slice a vs.length c), (46, I j)])
    (fun ⟨j, vs, a, c⟩ => [sv eFn 48 vs a c, cl g11 [PP gl] 85, lgC gl gb ls none 0, BenC gb b, glC, StsC gl ((List.range j).map .wr) vs]) (fun ⟨j, vs, a, c⟩ => j ≤ 10 ∧ vs.map (·.k) = ((List.range j).map Stp.wr).map Stp.k) (fun x => 10 - x.1) (0, [], none, 0) sl_
    (by rw [← hlg]; exact Ent.sel sel_ (Ent.sel sel_ (Ent.sel sel_ (Ent.sel sel_ (Ent.sel sel_ (StsC_nil ent_)))))) ⟨Nat.zero_le _, by simp⟩ fun ⟨j, vs, a, c⟩ B ⟨hj, hv⟩ => ?_
  dsimp only at hj hv ⊢
  have hvl : vs.length = j := by simpa using congrArg List.length hv
  refine W ?_
  refine w_if rfl (fun h => ?_) (fun h => ?_)
  · refine W ?_
    refine cl' (f132 (gl := gl) (n := j) (x := blk0)) ?_
    rintro _ _ ⟨f, rfl, hf, rfl⟩
    refine W ?_
    refine w_bs1 eFn f rfl rfl rfl (by decide) fun gt => ?_
    refine W ?_
    refine w_ap eFn (sel_ : Sel (sv eFn 48 vs a c) _ _) (rd_row (show rowc eFn 48 [f] gt 1 ∈ _ from mem_)) (by simp; omega) (by simp; omega) fun a' c' => ?_
    refine W ?_
    refine w_land rfl (w_round (j + 1, vs ++ [f], a', c') ⟨by omega, ?_⟩ (by show 10 - (j + 1) < 10 - j; omega) sl_ ?_)
    · rw [List.range_succ]; simp [hv, hf, Stp.k]
    · refine Ent.sel sel_ (Ent.sel sel_ (Ent.sel sel_ (Ent.sel sel_ (Ent.sel sel_ ?_))))
      rw [List.range_succ, List.map_append]
      exact (Ent.sel (sel_ : Sel (wrC gl j f) _ _) (Ent.sel (sel_ : Sel (StsC gl _ vs) _ _) (.refl _))).trans ((StsC_snoc (s := .wr j) (by simp [hvl])).trans (Ent.cons _ ent_))
  · have hj10 : j = 10 := by omega
    subst hj10
    refine W ?_
    refine w_bs2 eFn ⟨133, [PP gl], []⟩ ⟨134, [], [PP g11]⟩ rfl rfl rfl rfl rfl (by decide) fun gt => ?_
    refine W ?_
    refine w_ap eFn (sel_ : Sel (sv eFn 48 vs a c) _ _) (rd_row (show rowc eFn 48 [⟨133, [PP gl], []⟩, ⟨134, [], [PP g11]⟩] gt 2 ∈ _ from mem_)) (by simp; omega) (by simp; omega) fun a' c' => ?_
    refine W ?_
    have evs : vs ++ [(⟨133, [PP gl], []⟩ : Fnv), ⟨134, [], [PP g11]⟩] = (vs ++ [⟨133, [PP gl], []⟩]) ++ [⟨134, [], [PP g11]⟩] := by simp
    rw [evs]
    refine g_svp rfl sel_ (by simp) fun g hg => ?_
    subst hg
    refine g_ent rfl ?_ (M := [rowc eFn 48 ((vs ++ [⟨133, [PP gl], []⟩]) ++ [⟨134, [], [PP g11]⟩]) g c', lgC gl gb ls none 0, BenC gb b, glC, StsC gl ((((List.range 10).map Stp.wr) ++ [.fl]) ++ [.mk]) ((vs ++ [⟨133, [PP gl], []⟩]) ++ [⟨134, [], [PP g11]⟩])]) ?_
    · refine Ent.sel sel_ (Ent.sel sel_ (Ent.sel sel_ (Ent.sel sel_ ?_)))
      refine Ent.trans ?_ (StsC_snoc (K := []) (s := .mk) (f := ⟨134, [], [PP g11]⟩) (by simp [hvl]))
      refine ent_ex g11 (ent_pur rfl (Ent.sel sel_ ?_))
      refine Ent.trans ?_ (StsC_snoc (K := []) (s := .fl) (f := ⟨133, [PP gl], []⟩) (by simp [hvl]))
      exact ent_pur rfl (Ent.sel sel_ ent_)
    have hlsd : ls.d = d ∧ ls.id = id ∧ ls.ring = ring := by rw [← hls]; exact ⟨rfl, rfl, rfl⟩
    have hd' : b.ds[ls.d]? = some dv := by rw [hlsd.1]; exact hd
    have hst : ∀ s ∈ (((List.range 10).map Stp.wr) ++ [.fl]) ++ [.mk], ∀ (f : Fnv) (b' : Ben), f.k = s.k → (∃ x, b'.ds[ls.d]? = some x ∧ x.n = dv.n ∧ x.dead = dv.dead) → b'.k < 1099511626100 → Ct Tryz.prog f.k (f.fs ++ [] ++ f.cs) [stC gl s f, lgC gl gb ls none 0, BenC gb b', glC] (StepQ ls dv 2 b' fun b'' => [stC gl s f, lgC gl gb ls none 0, BenC gb b'', glC]) := by
      rintro s hs f' b' hf' ⟨y, hy1, hy2⟩ hk'
      simp only [List.mem_append, List.mem_map, List.mem_range, List.mem_cons, List.not_mem_nil, or_false] at hs
      rcases hs with (⟨n, hn', rfl⟩ | rfl) | rfl
      · exact step_wr (by omega) hy1 hy2 (by omega) (by omega) hf'
      · exact step_fl (by omega) hy1 hy2 (by omega) (by omega) hf'
      · exact step_mk hy1 hy2 (by omega) (by omega) (by omega) (by omega) (by omega) hf'
    refine cl' (f136s (m := 2) (Kb := 1099511626100) (ss := (((List.range 10).map Stp.wr) ++ [.fl]) ++ [.mk]) (vs := (vs ++ [⟨133, [PP gl], []⟩]) ++ [⟨134, [], [PP g11]⟩]) (by simp only [List.map_append, hv]; rfl) hd' (by simp) (by simp) (by simp; omega) hst) ?_
    rintro _ _ ⟨b', rfl, hle, hres⟩
    rw [hlsd.1] at hle
    have hle : LE d 24 b b' := hle.mono (by simp)
    rcases hres with ⟨rfl, h⟩ | ⟨rfl, h, hk2⟩
    · refine W ?_
      exact fin ⟨_, rfl, b', hle, .inl ⟨_, rfl, h, rfl⟩⟩
    · refine g_ent rfl (Ent.trans (Ent.sel (sel_ : Sel (StsC gl _ _) _ _) (Ent.refl _)) (ent_sts (j := 11) (s := .mk) (f := ⟨134, [], [PP g11]⟩) (by simp) (by simp [List.getElem?_append, hvl]))) ?_
      refine g_ex rfl (Sel.hd : Sel (exC 35 (fun g : Nat => [pur ((⟨134, [], [PP g11]⟩ : Fnv) = ⟨134, [], [PP g]⟩), cl g [PP gl] 85])) _ _) fun g' => ?_
      refine g_pure rfl Sel.hd fun e => ?_
      obtain rfl : g11 = g' := by simpa [PP] using e
      refine W ?_
      simp at hk2
      subst hls
      exact finE ⟨_, rfl, b', hle, .inr ⟨gl, rfl, h, hk2, rfl⟩⟩ (Ent.sel sel_ (Ent.sel sel_ (ent_ex (none, 0) (Ent.sel sel_ (ent_svn ent_)))))
end
end Go.Proofs.YtnilejkfbcnkkaaGreatDoor.V
end
