/- Proved: what the journal tells, what is appended and cleared; what is appended to the journal; how the journal is cleared; the conditions stand in the statements. -/
import Derived.Test.YtnilejkfbcnkkaaGreatDoorM06
set_option linter.unusedVariables false
set_option linter.unusedSimpArgs false
set_option linter.unusedSectionVars false
section
set_option maxRecDepth 100000
set_option maxHeartbeats 4000000
namespace Go.Proofs.YtnilejkfbcnkkaaGreatDoor.V
variable [GlK]
open Go Go.RowKit
attribute [local irreducible] Yields cl blk pur rowc sv exC fo

section
variable {α : Type} {E : Enc α} {e : TypeId} {l : List α} {a : Option Addr} {cap : Nat} {n : Fp} {w0 : World} {S : Nat → Prop} {X : Post} {R : Regs} {L : Hp} {k : Kd}
theorem g_lenS (hk : k.plain = true) (hm : sv E e l a cap ∈ L) (h : l.length ≤ cap → cap ≤ maxLen → Gl n w0 S X k R L) : Gl n w0 S X k R L := by
  have key : ∀ Y : Act → World → Prop, (l.length ≤ cap → cap ≤ maxLen → G n w0 S Y R L) → G n w0 S Y R L := fun Y h a w ha hw => by
    obtain ⟨h1, h2⟩ := sv_len hm hw; exact h h1 h2 a w ha hw
  cases k <;> first | (cases hk; done) | (unfold Gl at *; exact key _ h)
theorem rd_drop {j : Nat} (h : Rds L E l a cap) (hj : j ≤ l.length) : Rds L E (l.drop j) (part_ a j E.sz cap) (cap - j) := by
  intro w0 S w hw
  obtain ⟨b, o, hs⟩ := h w0 S w hw
  refine ⟨b, o + j * E.sz, fun hp => ?_, fun i hi => ?_, ?_, by have := hs.mx; omega⟩
  · simp only [List.length_drop] at hp
    have := hs.le
    rw [part_, if_neg (by omega), hs.at_ (by omega)]
    simp [Addr.add]
  · simp only [List.length_drop] at hi
    have := hs.rd (j + i) (by omega)
    rw [List.getElem_drop]
    rwa [show o + (j + i) * E.sz = o + j * E.sz + i * E.sz by rw [Nat.add_mul]; omega] at this
  · have := hs.le
    simp only [List.length_drop]; omega
end
section
variable {gl gb : Nat} {l : Lg} {dv : Dev} {b : Ben}
theorem f102 (h : l.first + l.live.length ≤ 1099511627777) : CtV Tryz.prog 102 [PP gl] [LogC gl gb l] (T [U l.first, U (l.first + l.live.length)]) := by
  refine w_ct Tryz.func102 rfl Tryz.ntmps102 rfl fun w B => ?_
  refine g_ex rfl Sel.hd fun ⟨al, cp⟩ => ?_
  refine W ?_
  refine cv f163 ?_
  refine W ?_
  refine cv (f164 h) ?_
  refine W ?_
  exact finE ⟨_, rfl, rfl, rfl⟩ (ent_ex (al, cp) ent_)
theorem f250 {at_ n : Nat} {al : Option Addr} {cp : Nat} (h1 : 1 ≤ l.ring) (h2 : l.ring ≤ 256) (h4 : at_ ≤ 2305843009213693952) (hn : 1 ≤ n) (hn' : n ≤ l.ring) :
    Ct Tryz.prog 250 [PP gl, U at_, I n] [lgC gl gb l al cp] (fun v L => ∃ (s : List Nat) (g : Nat), s.length = n ∧ (∀ x ∈ s, x < 10 + l.ring) ∧ v = SL g n n ∧ L = [lgC gl gb l al cp, rowc eNat 3 s g n]) := by
  refine w_ct Tryz.func250 rfl Tryz.ntmps250 rfl fun w B => ?_
  refine W ?_
  refine cl' (f270 h1 h2 h4 hn hn') ?_
  rintro _ _ ⟨s, g, hs1, hs2, rfl, rfl⟩
  refine W ?_
  refine w_loop (γ := Nat × List Nat) (fun ⟨j, s⟩ => [(7, SL g n n), (21, I n), (22, I j)]) (fun ⟨j, s⟩ => [rowc eNat 3 s g n, lgC gl gb l al cp]) (fun ⟨j, s⟩ => j ≤ n ∧ s.length = n ∧ (∀ x ∈ s.take j, x < 10 + l.ring) ∧ ∀ x ∈ s.drop j, x < l.ring) (fun x => n - x.1) (0, s) sl_ ent_ ⟨Nat.zero_le _, hs1, by simp, by simpa using hs2⟩ fun ⟨j, s⟩ B ⟨hj, hl, hx1, hx2⟩ => ?_
  dsimp only at hj hl hx1 hx2 ⊢
  refine W ?_
  refine w_if rfl (fun h => ?_) (fun h => ?_)
  · have hjs : j < s.length := by omega
    have hv := hx2 s[j] (by rw [List.mem_drop_iff_getElem]; exact ⟨0, by omega, by simp⟩)
    refine W ?_
    refine w_stE (E := eNat) (i := j) (x := s[j] + 10) inferInstance rfl rfl rfl ?_ rfl upd_ ?_
    · omega
    refine W ?_
    refine w_land rfl (w_round (j + 1, s.set j (s[j] + 10)) ⟨by omega, by simpa using hl, ?_, ?_⟩ (by show n - (j + 1) < n - j; omega) sl_ ent_)
    · intro x hx
      rw [List.take_set] at hx
      rcases List.mem_or_eq_of_mem_set hx with h | h
      · rw [List.take_succ_eq_append_getElem hjs] at h
        simp only [List.mem_append, List.mem_singleton] at h
        rcases h with h | h
        · exact hx1 x h
        · omega
      · omega
    · intro x hx
      rw [List.drop_set_of_lt (by omega)] at hx
      exact hx2 x (by rw [← List.drop_drop] at hx; exact List.mem_of_mem_drop hx)
  · refine W ?_
    exact fin ⟨_, rfl, s, g, hl, by intro x hx; rw [show j = n by omega, List.take_of_length_le (by omega)] at hx1; exact hx1 x hx, rfl, rfl⟩
end
end Go.Proofs.YtnilejkfbcnkkaaGreatDoor.V
end
section
set_option maxRecDepth 100000
set_option maxHeartbeats 4000000
namespace Go.Proofs.YtnilejkfbcnkkaaGreatDoor.V
variable [GlK]
open Go Go.RowKit
attribute [local irreducible] Yields cl blk pur rowc sv exC fo

def Lg.app (l : Lg) (size k : Nat) (sum : Int) : Lg := { l with live := l.live ++ [⟨l.first + l.live.length, l.head, k, sum⟩], head := l.head + size }
theorem LgOk.app {l : Lg} {k k' size kk : Nat} {sum : Int} (h : LgOk l k) (hk : k + 1 ≤ k') (hs : 1 ≤ size) (hs' : size ≤ l.ring - (l.head - l.tail)) (hsz : size ≤ 64) (hn : l.live.length < 8) : LgOk (l.app size kk sum) k' := by
  refine ⟨h.id, h.r1, h.r2, h.c1, by have := h.c2; show l.count ≤ k' + 1; omega, h.f1, ?_, ?_, ?_, ?_, ?_, ?_, ?_, ?_⟩
  · have := h.f2; show l.first + (l.live ++ [_]).length ≤ k' + 1; simp; omega
  · have := h.th; show l.tail ≤ l.head + size; omega
  · have := h.th; have := h.hr; show l.head + size - l.tail ≤ l.ring; omega
  · have := h.hk; show l.head + size ≤ 64 * k'; omega
  · show (l.live ++ [_]).length ≤ 8; simp; omega
  · intro x hx
    rcases List.mem_append.1 hx with hx | hx
    · have := h.at_ x hx; exact ⟨this.1, by show x.at_ ≤ l.head + size; omega⟩
    · simp at hx; subst hx; exact ⟨h.th, by show l.head ≤ l.head + size; omega⟩
  · intro e; simp [Lg.app] at e
  · show (l.live ++ [_]).Pairwise _
    rw [List.pairwise_append]
    refine ⟨h.srt, by simp, ?_⟩
    intro x hx y hy
    simp at hy; subst hy
    exact (h.at_ x hx).2
section
variable {gl gb : Nat} {l : Lg} {dv : Dev} {b : Ben}
theorem f206 {c : List Cel} {gc cc : Nat} (hl : LgOk l b.k) (hd : b.ds[l.d]? = some dv) (hn : 10 + l.ring ≤ dv.n) (hk : b.k < 1099511620000) (h1 : 1 ≤ c.length) (h2 : c.length ≤ 32) (hok : CelOk c) :
    Ct Tryz.prog 206 [PP gl, SL gc c.length cc] [LogC gl gb l, BenC gb b, glC, rowc eCel 163 c gc cc] (fun v L =>
      ((l.ring - (l.head - l.tail) < hds c.length + c.length ∨ 8 ≤ l.live.length) ∧ v = T [U 0, I 10] ∧ L = [LogC gl gb l, BenC gb b, glC, rowc eCel 163 c gc cc]) ∨
      (∃ b', LE l.d 40 b b' ∧ ((∃ x, v = T [x, I 9] ∧ dv.dead = true ∧ L = [LogC gl gb l, BenC gb b', glC, rowc eCel 163 c gc cc]) ∨
        (∃ size kk sum, v = T [U (l.first + l.live.length), I 0] ∧ dv.dead = false ∧ LgOk (l.app size kk sum) b'.k ∧ L = [LogC gl gb (l.app size kk sum), BenC gb b', glC, rowc eCel 163 c gc cc])))) := by
  refine w_ct Tryz.func206 rfl Tryz.ntmps206 rfl fun w B => ?_
  refine g_ex rfl Sel.hd fun ⟨al, cp⟩ => ?_
  have hf2 := hl.f2
  have hhk := hl.hk
  have hrr := hl.r2
  have hh : hds c.length ≤ 2 := by unfold hds; omega
  refine W ?_
  refine cv f163 ?_
  refine W ?_
  refine cl' (f248 h1 h2 hok) ?_
  rintro _ _ ⟨o, a, c', ho, rfl, rfl⟩
  refine W ?_
  refine cv (f249 (n := o.length) (by have := hl.r1; omega) hl.r2 hl.th (by omega) hl.hr (by omega)) ?_
  by_cases hfit : o.length ≤ l.ring - (l.head - l.tail)
  · rw [if_pos hfit]
    refine W ?_
    by_cases h8 : 8 ≤ l.live.length
    · rw [decide_eq_true (show (8 : Int) ≤ l.live.length by omega)]
      refine W ?_
      exact finE ⟨_, rfl, .inl ⟨.inr h8, rfl, rfl⟩⟩ (ent_ex (al, cp) ent_)
    · rw [decide_eq_false (show ¬ (8 : Int) ≤ l.live.length by omega)]
      refine W ?_
      refine cl' (f250 (l := l) (al := al) (cp := cp) (at_ := l.head) (n := o.length) (by have := hl.r1; omega) hl.r2 (by omega) (by omega) (by omega)) ?_
      rintro _ _ ⟨s, gs, hs1, hs2, rfl, rfl⟩
      refine W ?_
      refine g_nil eFn 48 rfl ?_
      refine g_svp rfl (sel_ : Sel (sv eBlk 51 o a c') _ _) (by omega) fun go hgo => ?_
      subst hgo
      refine w_loop (γ := Nat × List Fnv × Option Addr × Nat) (fun ⟨j, vs, a, c9⟩ => [(0, PP gl), (1, SL gc c.length cc), (6, SL go o.length c'), (8, U (l.head + o.length)), (9, .slice a vs.length c9), (61, SL gs o.length o.length), (62, I o.length), (63, I j)])
        (fun ⟨j, vs, a, c9⟩ => [sv eFn 48 vs a c9, lgC gl gb l al cp, rowc eNat 3 s gs o.length, rowc eBlk 51 o go c', rowc eCel 163 c gc cc, sv eNo 265 l.live al cp, BenC gb b, glC, StsC gl ((s.take j).map .wr) vs]) (fun ⟨j, vs, a, c9⟩ => j ≤ o.length ∧ vs.map (·.k) = ((s.take j).map Stp.wr).map Stp.k) (fun x => o.length - x.1) (0, [], none, 0) sl_
        (Ent.sel sel_ (Ent.sel sel_ (Ent.sel sel_ (Ent.sel sel_ (Ent.sel sel_ (Ent.sel sel_ (Ent.sel sel_ (Ent.sel sel_ (StsC_nil ent_))))))))) ⟨Nat.zero_le _, by simp⟩ fun ⟨j, vs, a, c9⟩ B ⟨hj, hv⟩ => ?_
      dsimp only at hj hv ⊢
      have hvl : vs.length = j := by have := congrArg List.length hv; simp at this; omega
      refine W ?_
      refine w_if rfl (fun h => ?_) (fun h => ?_)
      · have hjs : j < s.length := by omega
        have hsj := hs2 s[j] (List.getElem_mem _)
        refine W ?_
        refine cl' (f132 (gl := gl) (n := s[j]) (x := o[j])) ?_
        rintro _ _ ⟨f, rfl, hf, rfl⟩
        refine W ?_
        refine w_bs1 eFn f rfl rfl rfl (by decide) fun gt => ?_
        refine W ?_
        refine w_ap eFn (sel_ : Sel (sv eFn 48 vs a c9) _ _) (rd_row (show rowc eFn 48 [f] gt 1 ∈ _ from mem_)) (by simp; omega) (by simp; omega) fun a' cv' => ?_
        refine W ?_
        refine w_land rfl (w_round (j + 1, vs ++ [f], a', cv') ⟨by omega, ?_⟩ (by show o.length - (j + 1) < o.length - j; omega) sl_ ?_)
        · rw [List.take_succ_eq_append_getElem hjs]; simp only [List.map_append, List.map_cons, List.map_nil, hv, hf, Stp.k]
        · refine Ent.sel sel_ (Ent.sel sel_ (Ent.sel sel_ (Ent.sel sel_ (Ent.sel sel_ (Ent.sel sel_ (Ent.sel sel_ (Ent.sel sel_ ?_)))))))
          rw [List.take_succ_eq_append_getElem hjs, List.map_append]
          exact (Ent.sel (sel_ : Sel (wrC gl s[j] f) _ _) (Ent.sel (sel_ : Sel (StsC gl _ vs) _ _) (.refl _))).trans ((StsC_snoc (s := .wr s[j]) (by simp [hvl]; omega)).trans (Ent.cons _ ent_))
      · have hjn : j = o.length := by omega
        subst hjn
        rw [List.take_of_length_le (by omega)] at hv ⊢
        refine W ?_
        refine w_dag [.q 0, .q 2, .q 3, .q 4, .q 5, .q 6, .q 7, .q 8, .f 11, .m 1 [2, 3, 4, 5, 6, 7, 8], .m 9 [2, 3, 4, 5, 6, 7], .q 10, .a 11, .m 12 []] (by decide +kernel) ?_
        refine W ?_
        refine dm fun E => ?_
        have h164 : CtV Tryz.prog 164 [PP gl] [lgC gl gb l al cp] (U (l.first + l.live.length)) := f164 (by omega)
        refine cv h164 ?_
        refine W ?_
        refine dm fun E => ?_
        have h251 := f251r (l := o) (g := go) (c := c') (by omega)
        refine cl' h251 ?_
        rintro _ _ ⟨⟨z, rfl⟩, rfl⟩
        refine W1 fun g12 => ?_
        have h252 := f252 (seq := l.first + l.live.length) (at_ := l.head) (k := c.length) (sum := z) (by have := hl.f1; omega) (by omega) (by omega) h1 h2
        refine cl' h252 ?_
        rintro _ _ ⟨⟨x, e, rfl⟩, rfl⟩
        refine W1 fun g13 => ?_
        have h253 := f253 (seq := l.first + l.live.length)
        refine cv h253 ?_
        refine W ?_
        have h132 := f132 (gl := gl) (n := 2 + (l.first + l.live.length) % 8) (x := x)
        rw [show ((2 + (l.first + l.live.length) % 8 : Nat) : Int) = 2 + (((l.first + l.live.length) % 8 : Nat) : Int) by omega] at h132
        refine cl' h132 ?_
        rintro _ _ ⟨f, rfl, hf, rfl⟩
        refine W ?_
        refine w_bs3 eFn ⟨133, [PP gl], []⟩ f ⟨133, [PP gl], []⟩ rfl rfl rfl rfl rfl rfl rfl (by decide) fun gt => ?_
        refine W ?_
        refine w_ap eFn (sel_ : Sel (sv eFn 48 vs a c9) _ _) (rd_row (show rowc eFn 48 [⟨133, [PP gl], []⟩, f, ⟨133, [PP gl], []⟩] gt 3 ∈ _ from mem_)) (by simp; omega) (by simp; omega) fun a' c8 => ?_
        refine W ?_
        have evs : vs ++ [(⟨133, [PP gl], []⟩ : Fnv), f, ⟨133, [PP gl], []⟩] = ((vs ++ [⟨133, [PP gl], []⟩]) ++ [f]) ++ [⟨133, [PP gl], []⟩] := by simp
        rw [evs]
        refine g_svp rfl sel_ (by simp) fun g hg => ?_
        subst hg
        refine g_ent rfl ?_ (M := [rowc eFn 48 (((vs ++ [⟨133, [PP gl], []⟩]) ++ [f]) ++ [⟨133, [PP gl], []⟩]) g c8, lgC gl gb l al cp, BenC gb b, glC, StsC gl (((s.map Stp.wr ++ [.fl]) ++ [.wr (2 + (l.first + l.live.length) % 8)]) ++ [.fl]) (((vs ++ [⟨133, [PP gl], []⟩]) ++ [f]) ++ [⟨133, [PP gl], []⟩]), rowc eCel 163 c gc cc, sv eNo 265 l.live al cp, cl g12 (noL (l.first + l.live.length) l.head c.length z) 265]) ?_
        · refine Ent.sel sel_ (Ent.sel sel_ (Ent.sel sel_ (Ent.sel sel_ ?_)))
          refine Ent.trans ?_ (StsC_snoc (s := .fl) (f := ⟨133, [PP gl], []⟩) (by simp [hvl, hs1]))
          refine ent_pur rfl ?_
          refine Ent.trans ?_ (StsC_snoc (s := .wr (2 + (l.first + l.live.length) % 8)) (f := f) (by simp [hvl, hs1]))
          refine Ent.sel sel_ ?_
          refine Ent.trans ?_ (StsC_snoc (s := .fl) (f := ⟨133, [PP gl], []⟩) (by simp [hvl, hs1]))
          exact ent_pur rfl (Ent.sel sel_ ent_)
        have hst : ∀ q ∈ ((s.map Stp.wr ++ [.fl]) ++ [.wr (2 + (l.first + l.live.length) % 8)]) ++ [.fl], ∀ (f : Fnv) (b' : Ben), f.k = q.k → (∃ x, b'.ds[l.d]? = some x ∧ x.n = dv.n ∧ x.dead = dv.dead) → b'.k < 1099511627000 → Ct Tryz.prog f.k (f.fs ++ [] ++ f.cs) [stC gl q f, lgC gl gb l al cp, BenC gb b', glC] (StepQ l dv 1 b' fun b'' => [stC gl q f, lgC gl gb l al cp, BenC gb b'', glC]) := by
          rintro q hq f' b' hf' ⟨y, hy1, hy2⟩ hk'
          simp only [List.mem_append, List.mem_map, List.mem_cons, List.not_mem_nil, or_false] at hq
          rcases hq with ((⟨n, hn', rfl⟩ | rfl) | rfl) | rfl
          · exact step_wr (by omega) hy1 hy2 (by have := hs2 n hn'; omega) (by omega) hf'
          · exact step_fl (by omega) hy1 hy2 (by omega) (by omega) hf'
          · exact step_wr (by omega) hy1 hy2 (by omega) (by omega) hf'
          · exact step_fl (by omega) hy1 hy2 (by omega) (by omega) hf'
        have hssl : (((s.map Stp.wr ++ [Stp.fl]) ++ [Stp.wr (2 + (l.first + l.live.length) % 8)]) ++ [Stp.fl]).length = o.length + 3 := by simp [hs1]
        have hrun := f136s (m := 1) (Kb := 1099511627000) (gl := gl) (gb := gb) (al := al) (cp := cp) (g := g) (c := c8) (ss := ((s.map Stp.wr ++ [.fl]) ++ [.wr (2 + (l.first + l.live.length) % 8)]) ++ [.fl]) (vs := ((vs ++ [⟨133, [PP gl], []⟩]) ++ [f]) ++ [⟨133, [PP gl], []⟩]) (by simp only [List.map_append, hv, List.map_cons, List.map_nil, hf]; rfl) hd (by simp) (by rw [hssl]; omega) (by rw [hssl]; omega) hst
        refine cl' hrun ?_
        rintro _ _ ⟨b', rfl, hle, hres⟩
        rw [hssl] at hle hres
        have hle : LE l.d 40 b b' := hle.mono (by omega)
        rcases hres with ⟨rfl, h⟩ | ⟨rfl, h, hk2⟩
        · refine W ?_
          exact finE ⟨_, rfl, .inr ⟨b', hle, .inl ⟨_, rfl, h, rfl⟩⟩⟩ (ent_ex (al, cp) ent_)
        · refine W ?_
          refine w_bs1 eNo ⟨l.first + l.live.length, l.head, c.length, z⟩ rfl rfl rfl (by decide) fun gt2 => ?_
          refine W ?_
          refine w_ap eNo (sel_ : Sel (sv eNo 265 l.live al cp) _ _) (rd_row (show rowc eNo 265 [⟨l.first + l.live.length, l.head, c.length, z⟩] gt2 1 ∈ _ from mem_)) (by simp; omega) (by simp; omega) fun a5 c5 => ?_
          refine W ?_
          exact finE ⟨_, rfl, .inr ⟨b', hle, .inr ⟨o.length, c.length, z, rfl, h, hl.app (by omega) (by omega) hfit (by omega) (by omega), rfl⟩⟩⟩ (ent_ex (a5, c5) ent_)
  · rw [if_neg hfit]
    refine W ?_
    exact finE ⟨_, rfl, .inl ⟨.inl (by omega), rfl, rfl⟩⟩ (ent_ex (al, cp) ent_)
end
end Go.Proofs.YtnilejkfbcnkkaaGreatDoor.V
end
section
set_option maxRecDepth 100000
set_option maxHeartbeats 4000000
namespace Go.Proofs.YtnilejkfbcnkkaaGreatDoor.V
variable [GlK]
open Go Go.RowKit
attribute [local irreducible] Yields cl blk pur rowc sv exC fo

def Lg.tl (l : Lg) (j : Nat) : Nat := match l.live[j]? with | some x => x.at_ | none => l.head
def Lg.clr (l : Lg) (j : Nat) : Lg := { l with count := l.count + 1, first := l.first + j, tail := l.tl j, live := l.live.drop j }
theorem LgOk.clr {l : Lg} {k k' j : Nat} (h : LgOk l k) (hk : k + 1 ≤ k') (hj : j ≤ l.live.length) : LgOk (l.clr j) k' := by
  have ht : l.tail ≤ l.tl j ∧ l.tl j ≤ l.head := by
    unfold Lg.tl
    split
    · rename_i x hx; exact h.at_ x (List.mem_of_getElem? hx)
    · exact ⟨h.th, Nat.le_refl _⟩
  refine ⟨h.id, h.r1, h.r2, ?_, ?_, ?_, ?_, ht.2, ?_, ?_, ?_, ?_, ?_, ?_⟩
  · have := h.c1; show 1 ≤ l.count + 1; omega
  · have := h.c2; show l.count + 1 ≤ k' + 1; omega
  · have := h.f1; show 1 ≤ l.first + j; omega
  · have := h.f2; show l.first + j + (l.live.drop j).length ≤ k' + 1; simp; omega
  · have := h.hr; show l.head - l.tl j ≤ l.ring; omega
  · have := h.hk; show l.head ≤ 64 * k'; omega
  · have := h.n8; show (l.live.drop j).length ≤ 8; simp; omega
  · intro x hx
    have hx : x ∈ l.live.drop j := hx
    refine ⟨?_, (h.at_ x (List.mem_of_mem_drop hx)).2⟩
    show l.tl j ≤ x.at_
    obtain ⟨i, hi, rfl⟩ := List.mem_drop_iff_getElem.1 hx
    have hjl : j < l.live.length := by omega
    unfold Lg.tl
    rw [List.getElem?_eq_getElem hjl]
    show l.live[j].at_ ≤ _
    rcases Nat.eq_zero_or_pos i with rfl | hp
    · simp
    · exact (List.pairwise_iff_getElem.1 h.srt) j (j + i) hjl (by omega) (by omega)
  · intro e
    have e : l.live.drop j = [] := e
    have hl : l.live.length ≤ j := by simpa using List.drop_eq_nil_iff.1 e
    show l.tl j = l.head
    unfold Lg.tl
    rw [List.getElem?_eq_none hl]
  · exact h.srt.sublist (List.drop_sublist _ _)
section
variable {gl gb : Nat} {l : Lg} {dv : Dev} {b : Ben}
theorem f165 {j : Nat} (hl : LgOk l b.k) (hd : b.ds[l.d]? = some dv) (hn : 10 + l.ring ≤ dv.n) (hk : b.k < 1099511620000) (hj : j ≤ l.live.length) :
    Ct Tryz.prog 165 [PP gl, U (l.first + j)] [LogC gl gb l, BenC gb b, glC] (fun v L => ∃ b', LE l.d 2 b b' ∧ ((v = I 9 ∧ dv.dead = true ∧ L = [LogC gl gb l, BenC gb b', glC]) ∨ (v = I 0 ∧ dv.dead = false ∧ LgOk (l.clr j) b'.k ∧ L = [LogC gl gb (l.clr j), BenC gb b', glC]))) := by
  refine w_ct Tryz.func165 rfl Tryz.ntmps165 rfl fun w B => ?_
  refine g_ex rfl Sel.hd fun ⟨al, cp⟩ => ?_
  have hf2 := hl.f2
  have hhk := hl.hk
  have hrr := hl.r2
  refine g_lenS rfl (show sv eNo 265 l.live al cp ∈ _ from mem_) fun hlc hcm => ?_
  have h163 := f163 (gl := gl) (gb := gb) (l := l) (al := al) (cp := cp)
  have h164 := f164 (gl := gl) (gb := gb) (l := l) (al := al) (cp := cp) (by omega)
  refine W ?_
  refine cv h163 ?_
  refine W ?_
  rw [decide_eq_false (show ¬ (((l.first + j : Nat) : Int) < l.first) by omega)]
  refine W ?_
  refine cv h164 ?_
  refine W ?_
  rw [decide_eq_false (show ¬ (((l.first + l.live.length : Nat) : Int) < ((l.first + j : Nat) : Int)) by omega)]
  refine W ?_
  refine w_joinS (γ := Unit) (fun _ => [(0, PP gl), (1, U (l.first + j)), (5, U j), (6, U (l.tl j))]) (fun _ => [lgC gl gb l al cp, sv eNo 265 l.live al cp, BenC gb b, glC]) (fun _ => True) ?_ fun _ B _ => ?_
  · by_cases hjl : j < l.live.length
    · rw [decide_eq_true (show ((l.first + j : Nat) : Int) - l.first < (l.live.length : Int) by omega)]
      refine g_svp rfl (sel_ : Sel (sv eNo 265 l.live al cp) _ _) (by omega) fun g hg => ?_
      subst hg
      have e1 : (((l.first + j : Nat) : Int) - (l.first : Int)).toNat = j := by omega
      refine W ?_
      refine w_land rfl (w_meet () trivial ⟨rfl, rfl, ie (by omega), ?_, trivial⟩ (Ent.sel sel_ (ent_sv ent_)))
      show Value.int .u64 _ = Value.int .u64 _
      refine ie ?_
      unfold Lg.tl
      simp only [e1, List.getElem?_eq_getElem hjl]
    · rw [decide_eq_false (show ¬ ((l.first + j : Nat) : Int) - l.first < (l.live.length : Int) by omega)]
      refine W ?_
      refine w_land rfl (w_meet () trivial ⟨rfl, rfl, ie (by omega), ?_, trivial⟩ ent_)
      show Value.int .u64 _ = Value.int .u64 _
      refine ie ?_
      unfold Lg.tl
      rw [List.getElem?_eq_none (by omega)]
  · have htl : l.tl j ≤ l.head := by
      unfold Lg.tl
      split
      · rename_i x hx; exact (hl.at_ x (List.mem_of_getElem? hx)).2
      · exact Nat.le_refl _
    have hc2 := hl.c2
    have h135 := f135 (gl := gl) (gb := gb) (l := l) (al := al) (cp := cp) (dv := dv) (b := b) (count := l.count + 1) (first := l.first + j) (at_ := l.tl j) hd (by omega) (by omega) (by omega) (by omega) hl.id hl.r1 hl.r2 (by have := hl.f1; omega) (by omega) (by omega)
    rw [show U (l.count + 1) = Value.int .u64 ((l.count : Int) + 1) from ie (by omega)] at h135
    refine W ?_
    refine cl' h135 ?_
    rintro _ _ ⟨b', rfl, hle, (⟨rfl, h⟩ | ⟨rfl, h, hk2⟩)⟩
    · refine W ?_
      exact finE ⟨_, rfl, b', hle, .inl ⟨rfl, h, rfl⟩⟩ (ent_ex (al, cp) ent_)
    · refine W ?_
      first
        | refine w_ke rfl (by decide +kernel) rfl (qn rfl (y_part j l.live.length rfl (UT.h (P := Tryz.prog)) (SZ.h (P := Tryz.prog)) ⟨.u64, rfl⟩ rfl hj hlc)) ?_
        | refine w_kl rfl (by decide +kernel) rfl (qn rfl (y_part j l.live.length rfl (UT.h (P := Tryz.prog)) (SZ.h (P := Tryz.prog)) ⟨.u64, rfl⟩ rfl hj hlc)) ?_
      refine W ?_
      refine g_nil eNo 265 rfl ?_
      refine w_ap eNo (sel_ : Sel (sv eNo 265 [] none 0) _ _) (rd_drop (rd_sv (show sv eNo 265 l.live al cp ∈ _ from mem_)) hj) (by simp; omega) (by simp; omega) (hm := by simp) fun a5 c5 => ?_
      refine W ?_
      refine finE ⟨_, rfl, b', hle, .inr ⟨rfl, h, hl.clr (by omega) hj, rfl⟩⟩ (ent_ex (a5, c5) ?_)
      have e9 : lgC gl gb (l.clr j) a5 c5 = cl gl [PP gb, I l.d, U l.id, I l.ring, .int .u64 ((l.count : Int) + 1), U (l.first + j), U (l.tl j), U l.head, .slice a5 ([] ++ l.live.drop j).length c5] 185 := by
        show cl gl _ 185 = _
        congr 1
      exact Ent.sel (C := lgC gl gb (l.clr j) a5 c5) (by rw [e9]; exact sel_) (Ent.sel sel_ ent_)
end
end Go.Proofs.YtnilejkfbcnkkaaGreatDoor.V
end
