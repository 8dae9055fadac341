/- Proved: the desk's small functions; a desk's transactions; a desk's status; what the reference's functions of a geometry do, and how a model is made; what a model's Writes and Put do, where the writes that came in stand as they stood; the conditions stand in the statements. -/
import Derived.Test.YtnilejkfbcnkkaaGreatDoorM24
set_option linter.unusedVariables false
set_option linter.unusedSimpArgs false
set_option linter.unusedSectionVars false
section
set_option maxRecDepth 100000
set_option maxHeartbeats 2000000
namespace Go.Proofs.YtnilejkfbcnkkaaGreatDoor.V
variable [GlK]
open Go Go.RowKit
attribute [local irreducible] Yields cl blk pur rowc sv exC fo cnt xorb blk0

/-- a desk's own block: its vault, its transaction, if one is open -/
abbrev dkC (gk gv : Nat) (t : Value) : Chunk := cl gk [PP gv, t] 82
section
variable {gk gv gh gb gs : Nat} {C : Nat → Nat → Blk} {V : Vlt} {t : Value}
theorem f38 : CtV Tryz.prog 38 [PP gk] [dkC gk gv t] (.bool false) := by
  refine w_ct Tryz.func38 rfl Tryz.ntmps38 rfl fun w B => ?_
  refine W ?_
  exact fin ⟨_, rfl, rfl, rfl⟩
theorem pick_all : ∀ L : Hp, Pick L L []
  | [] => Pick.nil
  | _ :: L => Pick.cons Sel.hd (pick_all L)
theorem f55 {f : Nat} {fs : List Value} {L : Hp} {Q : Value → Hp → Prop} [hb : BD Tryz.prog f] (hc : Ct Tryz.prog f (fs ++ [] ++ []) L Q) : Ct Tryz.prog 55 [PP gk, .func (.func f) fs.toArray #[]] L Q := by
  refine w_ct Tryz.func55 rfl Tryz.ntmps55 rfl fun w B => ?_
  refine W ?_
  refine cx hc ?_ (hp := pick_all L)
  intro v L' hq
  rw [List.append_nil]
  refine W ?_
  exact fin ⟨_, rfl, hq⟩
theorem f28 (k : VK C V) (hk : V.b.k < 1099300000000) : Ct Tryz.prog 28 [PP gk] (dkC gk gv t :: VtM gv gh gb gs V) (fun v L => ∃ V' : Vlt, L = dkC gk gv t :: VtM gv gh gb gs V' ∧ FlQ C 20000000 V V' v) := by
  have h55 := f55 (gk := gk) (f := 56) (fs := [PP gv]) (f56 (gv := gv) (gh := gh) (gb := gb) (gs := gs) k (by omega))
  refine w_ct Tryz.func28 rfl Tryz.ntmps28 rfl fun w B => ?_
  refine W ?_
  refine cv (f38 (gv := gv) (t := t)) ?_
  refine W ?_
  refine cl' h55 ?_
  rintro v _ ⟨V1, rfl, hq⟩
  have hv : ∃ e : Int, v = .int .i64 e := by rcases hq.2 with ⟨h, _⟩ | ⟨h, _⟩ <;> exact ⟨_, h⟩
  obtain ⟨e, rfl⟩ := hv
  refine W ?_
  exact fin ⟨_, rfl, V1, rfl, hq⟩
theorem f29 {n : Nat} (k : VK C V) (hn : n < V.h.r.g.s) (hk : V.b.k < 1099300000000) : Ct Tryz.prog 29 [PP gk, I n] (dkC gk gv t :: VtM gv gh gb gs V) (fun v L => ∃ V' : Vlt, L = dkC gk gv t :: VtM gv gh gb gs V' ∧ FlQ C 20000000 V V' v) := by
  have h57 := f57 (gv := gv) (gh := gh) (gb := gb) (gs := gs) (n := n) k hn (by omega)
  refine w_ct Tryz.func29 rfl Tryz.ntmps29 rfl fun w B => ?_
  refine W ?_
  refine cv (f38 (gv := gv) (t := t)) ?_
  refine W ?_
  refine cl' h57 ?_
  rintro v _ ⟨V1, rfl, hq, _, _⟩
  have hv : ∃ e : Int, v = .int .i64 e := by rcases hq.2 with ⟨h, _⟩ | ⟨h, _⟩ <;> exact ⟨_, h⟩
  obtain ⟨e, rfl⟩ := hv
  refine W ?_
  exact fin ⟨_, rfl, V1, rfl, hq.1.mono (by omega), hq.2⟩
theorem f30 (k : VK C V) (hk : V.b.k < 1099300000000) : Ct Tryz.prog 30 [PP gk] (dkC gk gv t :: VtM gv gh gb gs V) (fun v L => ∃ V' : Vlt, L = dkC gk gv t :: VtM gv gh gb gs V' ∧ FlQ C 20000000 V V' v) := by
  have h55 := f55 (gk := gk) (f := 58) (fs := [PP gv]) (f58 (gv := gv) (gh := gh) (gb := gb) (gs := gs) k (by omega))
  refine w_ct Tryz.func30 rfl Tryz.ntmps30 rfl fun w B => ?_
  refine W ?_
  refine cv (f38 (gv := gv) (t := t)) ?_
  refine W ?_
  refine cl' h55 ?_
  rintro v _ ⟨V1, rfl, hq⟩
  have hv : ∃ e : Int, v = .int .i64 e := by rcases hq.2 with ⟨h, _⟩ | ⟨h, _⟩ <;> exact ⟨_, h⟩
  obtain ⟨e, rfl⟩ := hv
  refine W ?_
  exact fin ⟨_, rfl, V1, rfl, hq⟩
theorem f62 (k : VK C V) (hk : V.b.k < 1099300000000) : Ct Tryz.prog 62 [PP gk] (dkC gk gv t :: VtM gv gh gb gs V) (fun v L => ∃ V' : Vlt, L = dkC gk gv t :: VtM gv gh gb gs V' ∧ AlQ C V V' v) := by
  have h55 := f55 (gk := gk) (f := 112) (fs := [PP gv]) (f112 (gv := gv) (gh := gh) (gb := gb) (gs := gs) k (by omega))
  refine w_ct Tryz.func62 rfl Tryz.ntmps62 rfl fun w B => ?_
  refine W ?_
  refine cv (f38 (gv := gv) (t := t)) ?_
  refine W ?_
  refine cl' h55 ?_
  rintro v _ ⟨V1, rfl, hq⟩
  have hv : ∃ e : Int, v = .int .i64 e := by rcases hq with ⟨h, _⟩ | ⟨h, _⟩ | ⟨h, _⟩ <;> exact ⟨_, h⟩
  obtain ⟨e, rfl⟩ := hv
  refine W ?_
  exact fin ⟨_, rfl, V1, rfl, hq⟩
theorem f61 {j : Nat} (k : VK C V) (hj : j < V.h.r.g.m) (hk : V.b.k < 1099300000000) : Ct Tryz.prog 61 [PP gk, I j] (dkC gk gv t :: VtM gv gh gb gs V) (fun v L => ∃ V' : Vlt, L = dkC gk gv t :: VtM gv gh gb gs V' ∧ SpQ C j V V' v) := by
  have h111 := f111 (gv := gv) (gh := gh) (gb := gb) (gs := gs) (j := j) k hj (by omega)
  refine w_ct Tryz.func61 rfl Tryz.ntmps61 rfl fun w B => ?_
  refine W ?_
  refine cv (f38 (gv := gv) (t := t)) ?_
  refine W ?_
  refine cl' h111 ?_
  rintro v _ ⟨V1, rfl, hq⟩
  have hv : ∃ e : Int, v = .int .i64 e := by rcases hq with ⟨h, _⟩ | ⟨h, _⟩ | ⟨h, _⟩ <;> exact ⟨_, h⟩
  obtain ⟨e, rfl⟩ := hv
  refine W ?_
  exact fin ⟨_, rfl, V1, rfl, hq⟩
theorem f32 (k : VK C V) (hk : V.b.k < 1099300000000) : Ct Tryz.prog 32 [PP gk] (dkC gk gv t :: VtM gv gh gb gs V) (fun v L => ∃ V' : Vlt, L = dkC gk gv t :: VtM gv gh gb gs V' ∧ StpQ C V V' v) := by
  have h60 := f60 (gv := gv) (gh := gh) (gb := gb) (gs := gs) k hk
  refine w_ct Tryz.func32 rfl Tryz.ntmps32 rfl fun w B => ?_
  refine W ?_
  refine cv (f38 (gv := gv) (t := t)) ?_
  refine W ?_
  refine cl' h60 ?_
  rintro v _ ⟨V1, rfl, ww, e, rfl, hq⟩
  refine W ?_
  exact fin ⟨_, rfl, V1, rfl, ww, e, rfl, hq⟩
theorem f31 {n : Nat} (k : VK C V) (hn : n < V.h.r.g.s) (hk : V.b.k < 1099300000000) : Ct Tryz.prog 31 [PP gk, I n] (dkC gk gv t :: VtM gv gh gb gs V) (fun v L => ∃ V' : Vlt, L = dkC gk gv t :: VtM gv gh gb gs V' ∧ RepQ C V V' v) := by
  have h59 := f59 (gv := gv) (gh := gh) (gb := gb) (gs := gs) (n := n) k hn hk
  refine w_ct Tryz.func31 rfl Tryz.ntmps31 rfl fun w B => ?_
  refine W ?_
  refine cv (f38 (gv := gv) (t := t)) ?_
  refine W ?_
  refine cl' h59 ?_
  rintro v _ ⟨V1, rfl, ww, e, rfl, hv, h16, hor⟩
  refine W ?_
  exact fin ⟨_, rfl, V1, rfl, ww, e, rfl, hv, h16, hor.imp (fun h => h.1) (fun h => h)⟩
theorem f34 {n : Nat} (k : VK C V) (hn : n < V.h.r.g.s) (hk : V.b.k < 1099300000000) : Ct Tryz.prog 34 [PP gk, I n] (dkC gk gv t :: VtM gv gh gb gs V) (fun v L => ∃ V' : Vlt, L = dkC gk gv t :: VtM gv gh gb gs V' ∧ RepQ C V V' v) := by
  have h63 := f63 (gv := gv) (gh := gh) (gb := gb) (gs := gs) (n := n) k hn hk
  refine w_ct Tryz.func34 rfl Tryz.ntmps34 rfl fun w B => ?_
  refine W ?_
  refine cv (f38 (gv := gv) (t := t)) ?_
  refine W ?_
  refine cl' h63 ?_
  rintro v _ ⟨V1, rfl, ww, e, rfl, hq⟩
  refine W ?_
  exact fin ⟨_, rfl, V1, rfl, ww, e, rfl, hq⟩
end
end Go.Proofs.YtnilejkfbcnkkaaGreatDoor.V
end
section
set_option maxRecDepth 100000
set_option maxHeartbeats 2000000
namespace Go.Proofs.YtnilejkfbcnkkaaGreatDoor.V
variable [GlK]
open Go Go.RowKit
attribute [local irreducible] Yields cl blk pur rowc sv exC fo cnt xorb blk0

section
variable {gk gv gh gb gs gd : Nat} {C : Nat → Nat → Blk} {V : Vlt} {m : List (Nat × Blk)}
theorem f15 (k : VK C V) : Ct Tryz.prog 15 [PP gk] (dkC gk gv PN :: VtM gv gh gb gs V) (fun v L =>
    (V.h.r.state = 5 ∧ v = I 16 ∧ L = dkC gk gv PN :: VtM gv gh gb gs V) ∨ (V.h.r.state = 4 ∧ v = I 13 ∧ L = dkC gk gv PN :: VtM gv gh gb gs V) ∨
    (V.h.r.state ≠ 5 ∧ V.h.r.state ≠ 4 ∧ v = I 0 ∧ ∃ gd, L = dkC gk gv (PP gd) :: VtM gv gh gb gs V ++ [DrC gd V.h.r.g []])) := by
  have h39 := f39 (gh := gh) (gb := gb) k.hb.ok
  have h41 := f41 (gh := gh) (gb := gb) (h := V.h)
  have h40 := f40 k.g
  refine w_ct Tryz.func15 rfl Tryz.ntmps15 rfl fun w B => ?_
  refine W ?_
  refine cv (f38 (gv := gv) (t := PN)) ?_
  refine W ?_
  refine cv h39 ?_
  refine W ?_
  by_cases h5 : V.h.r.state = 5
  · rw [decide_eq_true (show ((V.h.r.state : Nat) : Int) = 5 by omega)]
    refine W ?_
    exact fin ⟨_, rfl, .inl ⟨h5, rfl, rfl⟩⟩
  rw [decide_eq_false (show ¬ ((V.h.r.state : Nat) : Int) = 5 by omega)]
  refine W ?_
  refine cv h39 ?_
  refine W ?_
  by_cases h4 : V.h.r.state = 4
  · rw [decide_eq_true (show ((V.h.r.state : Nat) : Int) = 4 by omega)]
    refine W ?_
    exact fin ⟨_, rfl, .inr (.inl ⟨h4, rfl, rfl⟩)⟩
  rw [decide_eq_false (show ¬ ((V.h.r.state : Nat) : Int) = 4 by omega)]
  refine W ?_
  refine cv h41 ?_
  refine W ?_
  refine w_y rfl rfl rfl (y_fN (vs := geL V.h.r.g) rfl sg_) ?_
  refine cl' h40 ?_
  rintro _ _ ⟨gd, rfl, rfl⟩
  refine W ?_
  exact fin ⟨_, rfl, .inr (.inr ⟨h5, h4, rfl, gd, rfl⟩)⟩
theorem f16 {n : Nat} {x : Blk} {g : Geo} (hg : GeoOk g) (hn : n < g.blocks) (hm : m.length ≤ 16) (hr : (lkp m n).isSome = true ∨ m.length < 16) :
    Ct Tryz.prog 16 [PP gk, I n, BV x] [dkC gk gv (PP gd), DrC gd g m] (fun v L => v = I 0 ∧ L = [dkC gk gv (PP gd), DrC gd g (putL m n x)]) := by
  have h42 := f42 (gd := gd) (x := x) hg hn hm
  refine w_ct Tryz.func16 rfl Tryz.ntmps16 rfl fun w B => ?_
  refine W1 fun g1 => ?_
  refine cv (f38 (gv := gv) (t := PP gd)) ?_
  refine W ?_
  refine cl' h42 ?_
  rintro _ _ (⟨_, rfl, rfl⟩ | ⟨h1, h2, _, _⟩)
  · refine W ?_
    exact fin ⟨_, rfl, rfl, rfl⟩
  · exfalso; rcases hr with h | h
    · rw [h] at h1; cases h1
    · omega
theorem f17d {n : Nat} {x : Blk} {g : Geo} (hx : lkp m n = some x) : CtV Tryz.prog 17 [PP gk, I n] [dkC gk gv (PP gd), DrC gd g m] (T [BV x, I 0]) := by
  have h43 := f43 (gd := gd) (g := g) (m := m) (n := n)
  rw [hx] at h43
  refine w_ct Tryz.func17 rfl Tryz.ntmps17 rfl fun w B => ?_
  refine W1 fun g1 => ?_
  refine cv (f38 (gv := gv) (t := PP gd)) ?_
  refine W ?_
  refine cv h43 ?_
  refine W1 fun g2 => ?_
  exact fin ⟨_, rfl, rfl, rfl⟩
theorem f72n : CtV Tryz.prog 72 [PN] [] (.bool true) := by
  refine w_ct Tryz.func72 rfl Tryz.ntmps72 rfl fun w B => ?_
  refine W ?_
  exact fin ⟨_, rfl, rfl, rfl⟩
theorem f43n {n : Nat} : CtV Tryz.prog 43 [PN, I n] [] (T [BV blk0, .bool false]) := by
  refine w_ct Tryz.func43 rfl Tryz.ntmps43 rfl fun w B => ?_
  refine W1 fun g1 => ?_
  refine cv f72n ?_
  refine W ?_
  exact fin ⟨_, rfl, rfl, rfl⟩
theorem f17 {n : Nat} (k : VK C V) (hn : n < V.h.r.g.blocks) (hk : V.b.k < 1099300000000) : Ct Tryz.prog 17 [PP gk, I n] (dkC gk gv PN :: VtM gv gh gb gs V) (fun v L => ∃ V' : Vlt, L = dkC gk gv PN :: VtM gv gh gb gs V' ∧ VS C C 1200 V V' ∧
    ((v = T [BV (V.h.r.g.cell C n), I 0] ∧ V'.h.r.state ≠ 5) ∨ (v = T [BV blk0, I 16] ∧ V'.h.r.state = 5))) := by
  have h44 := f44 (gv := gv) (gh := gh) (gb := gb) (gs := gs) k hn (by omega)
  refine w_ct Tryz.func17 rfl Tryz.ntmps17 rfl fun w B => ?_
  refine W1 fun g1 => ?_
  refine cv (f38 (gv := gv) (t := PN)) ?_
  refine W ?_
  refine cv (f43n (n := n)) ?_
  refine W1 fun g2 => ?_
  refine cl' h44 ?_
  rintro _ _ ⟨V1, rfl, hv, (⟨rfl, h5⟩ | ⟨rfl, h5⟩)⟩
  · refine W ?_
    exact fin ⟨_, rfl, V1, rfl, hv, .inl ⟨rfl, h5⟩⟩
  · refine W ?_
    exact fin ⟨_, rfl, V1, rfl, hv, .inr ⟨rfl, h5⟩⟩
theorem f18 : Ct Tryz.prog 18 [PP gk] [dkC gk gv (PP gd)] (fun v L => v = I 0 ∧ L = [dkC gk gv PN]) := by
  refine w_ct Tryz.func18 rfl Tryz.ntmps18 rfl fun w B => ?_
  refine W ?_
  refine cv (f38 (gv := gv) (t := PP gd)) ?_
  refine W ?_
  exact fin ⟨_, rfl, rfl, rfl⟩
theorem f25 {g : Geo} (k : VK C V) (hg : V.h.r.g = g) (hk : V.b.k < 1099000000000) (hm : m.length ≤ 16) (hb : ∀ p ∈ m, p.1 < g.blocks) : Ct Tryz.prog 25 [PP gk] (dkC gk gv (PP gd) :: VtM gv gh gb gs V ++ [DrC gd g m]) (fun v L => ∃ V' : Vlt, L = dkC gk gv PN :: VtM gv gh gb gs V' ∧ CmtQ C (wrs m) V V' v) := by
  subst hg
  have hbl : V.h.r.g.blocks < 100000 := by
    have := k.g.s64
    have := k.g.m16
    unfold Geo.blocks
    exact Nat.lt_of_le_of_lt (Nat.mul_le_mul (show V.h.r.g.s ≤ 64 by omega) (show V.h.r.g.m - 1 ≤ 16 by omega)) (by decide)
  have h50 := f50 (gd := gd) (g := V.h.r.g) hm (fun p hp => Nat.lt_trans (hb p hp) hbl)
  refine w_ct Tryz.func25 rfl Tryz.ntmps25 rfl fun w B => ?_
  refine W ?_
  refine cv (f38 (gv := gv) (t := PP gd)) ?_
  refine W ?_
  refine cl' h50 ?_
  rintro _ _ ⟨a, c, rfl, rfl⟩
  have h51 := f51 (gv := gv) (gh := gh) (gb := gb) (gs := gs) (ws := wrs m) (a := a) (c := c) k hk (by unfold wrs; rw [List.length_map, srt_len, List.length_map]; exact hm) (by
    intro w hw
    unfold wrs at hw
    obtain ⟨j, hj, rfl⟩ := List.mem_map.1 hw
    obtain ⟨p, hp, rfl⟩ := List.mem_map.1 (srt_perm.mem_iff.1 hj)
    exact hb p hp)
  refine W ?_
  refine cl' h51 ?_
  rintro v _ ⟨V1, rfl, hq⟩
  have hv : ∃ e : Int, v = .int .i64 e := by rcases hq with ⟨h, _⟩ | ⟨_, ⟨h, _⟩ | ⟨h, _⟩⟩ <;> exact ⟨_, h⟩
  obtain ⟨e, rfl⟩ := hv
  refine W ?_
  exact fin ⟨_, rfl, V1, rfl, hq⟩
theorem f35 {t : Value} (hg : GeoOk V.h.r.g) : CtV Tryz.prog 35 [PP gk] (dkC gk gv t :: VtM gv gh gb gs V) (I V.h.r.g.blocks) := by
  have h41 := f41 (gh := gh) (gb := gb) (h := V.h)
  have h64 := f64 hg
  refine w_ct Tryz.func35 rfl Tryz.ntmps35 rfl fun w B => ?_
  refine W ?_
  refine cv (f38 (gv := gv) (t := t)) ?_
  refine W ?_
  refine cv h41 ?_
  refine W ?_
  refine w_y rfl rfl rfl (y_fN (vs := geL V.h.r.g) rfl sg_) ?_
  refine cv h64 ?_
  refine W ?_
  exact fin ⟨_, rfl, rfl, rfl⟩
theorem f47 : Ct Tryz.prog 47 [PP gv, I 0] [] (fun v L => ∃ gk, v = T [PP gk, I 0] ∧ L = [dkC gk gv PN]) := by
  refine w_ct Tryz.func47 rfl Tryz.ntmps47 rfl fun w B => ?_
  refine W ?_
  refine W1 fun gk => ?_
  exact fin ⟨_, rfl, gk, rfl, rfl⟩
theorem f23 {g : Geo} {b : Ben} {id : Nat} (hg : GeoOk g) (hi : 0 < id) (hi2 : id < 1000) (hb : BnC g b) : Ct Tryz.prog 23 [PP gb, GV g, U id] [BenC gb b, glC] (fun v L => ∃ (gk gv gh gs : Nat) (V : Vlt), v = T [PP gk, I 0] ∧ L = dkC gk gv PN :: VtM gv gh gb gs V ∧ VK (fun _ _ => blk0) V ∧ V.h.r.g = g ∧ V.b.k ≤ 10000 ∧ (∀ j, V.b.dead j = false) ∧ (∀ j, V.h.r.st j = 0) ∧ V.h.r.gone = false) := by
  have h48 := f48 (gb := gb) hg hi hi2 hb
  refine w_ct Tryz.func23 rfl Tryz.ntmps23 rfl fun w B => ?_
  refine W1 fun g1 => ?_
  refine cl' h48 ?_
  rintro _ _ ⟨gv, gh, gs, V, rfl, rfl, hq⟩
  refine W ?_
  refine cl' (f47 (gv := gv)) ?_
  rintro _ _ ⟨gk, rfl, rfl⟩
  refine W ?_
  exact fin ⟨_, rfl, gk, gv, gh, gs, V, rfl, rfl, hq⟩
end
end Go.Proofs.YtnilejkfbcnkkaaGreatDoor.V
end
section
set_option maxRecDepth 100000
set_option maxHeartbeats 2000000
namespace Go.Proofs.YtnilejkfbcnkkaaGreatDoor.V
variable [GlK]
open Go Go.RowKit
attribute [local irreducible] Yields cl blk pur rowc sv exC fo cnt xorb blk0

section
variable {gk gv gh gb gs gd : Nat} {C : Nat → Nat → Blk} {V : Vlt} {m : List (Nat × Blk)}
def livN : Option (Nat × Lg) → Nat
  | none => 0
  | some x => x.2.live.length
theorem f68 (k : VK C V) (hk : V.b.k < 1099400000000) : CtV Tryz.prog 68 [PP gv] [vtC gv gh gb gs (lgV V.l), lgO gb V.l] (I (livN V.l)) := by
  obtain ⟨h, b, s, l⟩ := V
  cases l with
  | none =>
    refine w_ct Tryz.func68 rfl Tryz.ntmps68 rfl fun w B => ?_
    show Gl _ _ _ _ _ _ [vtC gv gh gb gs PN, lgO gb none]
    refine W ?_
    exact fin ⟨_, rfl, rfl, rfl⟩
  | some x =>
    obtain ⟨gl, lg⟩ := x
    have hlo := k.lo.2.1
    have hlo : LgOk lg b.k := hlo
    have hf2 := hlo.f2
    have hk : b.k < _ := hk
    have h102 := f102 (gl := gl) (gb := gb) (l := lg) (by omega)
    refine w_ct Tryz.func68 rfl Tryz.ntmps68 rfl fun w B => ?_
    show Gl _ _ _ _ _ _ [vtC gv gh gb gs (PP gl), LogC gl gb lg]
    refine W ?_
    refine cv h102 ?_
    refine W ?_
    have e : ((lg.first + lg.live.length : Nat) : Int) - (lg.first : Nat) = (lg.live.length : Nat) := by omega
    exact fin (v := .int .i64 (((lg.first + lg.live.length : Nat) : Int) - (lg.first : Nat))) ⟨_, rfl, congrArg (Value.int .i64) e, rfl⟩
theorem b77 {a c d e f : Int} {b : Int} {q : Bool} : Tryz.prog.built 77 [(0, .int .i64 a), (1, .int .u64 b), (2, .int .i64 c), (3, .int .i64 d), (4, .int .i64 e), (5, .int .i64 f), (6, .bool q)] = some #[.int .i64 a, .int .u64 b, .int .i64 c, .int .i64 d, .int .i64 e, .int .i64 f, .bool q] := by
  unfold Program.built; simp only [Tryz.underlying77]; kernel_rfl
theorem f36 (k : VK C V) (h5 : V.h.r.state ≠ 5) (hk : V.b.k < 1099300000000) : Ct Tryz.prog 36 [PP gk] (dkC gk gv PN :: VtM gv gh gb gs V) (fun v L => ∃ (a b c d e f : Value), v = A [I V.h.r.state, a, b, c, d, e, f] ∧ L = dkC gk gv PN :: VtM gv gh gb gs V) := by
  have h39 := f39 (gh := gh) (gb := gb) k.hb.ok
  have h41 := f41 (gh := gh) (gb := gb) (h := V.h)
  have h65 := f65 (gh := gh) (gb := gb) (h := V.h)
  have h66 := f66 (gv := gv) (gh := gh) (gb := gb) (gs := gs) (l := lgV V.l)
  have h68 := f68 (gv := gv) (gh := gh) (gb := gb) (gs := gs) k (by omega)
  refine w_ct Tryz.func36 rfl Tryz.ntmps36 rfl fun w B => ?_
  refine g_shp rfl (sel_ : Sel (ShC gs V.h.r.g V.s) _ _) fun hp => ?_
  have hr20 : V.s.r = 20 := (k.sk h5).1.r
  have h67 := f67 (gs := gs) (s := V.s) k.g (by have := hp.le; omega)
  refine W1 fun g1 => ?_
  refine cv (f38 (gv := gv) (t := PN)) ?_
  refine W ?_
  refine w_dag [.q 0, .q 1, .q 2, .q 3, .q 4, .q 5, .q 6, .q 7, .q 8, .q 9, .q 10, .q 11, .q 12, .q 13, .q 14, .q 15, .q 16, .q 17, .q 18, .q 19, .q 20, .q 23, .q 24, .q 25, .q 26, .q 28, .q 29, .q 30, .q 31, .q 32, .q 33, .q 34, .q 37, .q 38, .q 39, .q 40, .q 41, .q 42, .q 43, .q 47, .q 48, .q 49, .q 50, .q 51, .m 21 [23, 24, 25, 26, 28, 29, 30, 31, 32, 33, 34, 37, 38, 39, 40, 41, 42, 43, 47, 48, 49, 50, 51], .q 22, .q 27, .q 35, .q 36, .q 44, .q 45, .q 46, .q 52, .m 53 []] (by decide +kernel) ?_
  refine W ?_
  refine dq h39 ?_
  refine W ?_
  refine dq h65 ?_
  refine W ?_
  refine dq h66 ?_
  refine W ?_
  refine dm fun E => ?_
  refine W ?_
  refine cl' h67 ?_
  rintro _ _ ⟨l, a, c, rfl, rfl, hd⟩
  refine W ?_
  refine dq h68 ?_
  refine W ?_
  refine dq h41 ?_
  refine W ?_
  refine dq h41 ?_
  refine W ?_
  refine w_dgq rfl rfl (fun E => qn rfl (y_fN (vs := geL V.h.r.g) rfl sg_)) ?_
  refine w_dgq (by rfl) (by rfl) (fun E => qy_) ?_
  refine w_dgq rfl rfl (fun E => qn rfl (y_build (ps := [(0, I V.h.r.state), (1, .int .u64 V.h.ev), (2, I l.length), (3, I (livN V.l)), (4, I V.h.r.cur), (5, I V.h.r.g.s), (6, .bool (!(none : Option Addr).isNone))]) (c := #[I V.h.r.state, .int .u64 V.h.ev, I l.length, I (livN V.l), I V.h.r.cur, I V.h.r.g.s, .bool (!(none : Option Addr).isNone)]) (by rw [Array.toList_map]; exact pts_) b77)) ?_
  refine W ?_
  exact fin ⟨_, rfl, _, _, _, _, _, _, rfl, rfl⟩
end
end Go.Proofs.YtnilejkfbcnkkaaGreatDoor.V
end
section
set_option maxRecDepth 100000
set_option maxHeartbeats 2000000
namespace Go.Proofs.YtnilejkfbcnkkaaGreatDoor.V
open Go Go.RowKit
attribute [local irreducible] Yields cl blk pur rowc sv exC fo

theorem f90 {g : Geo} (hg : GeoOk g) : CtV Tryz.prog 90 [GV g] [] (.bool true) := by
  obtain ⟨h1, h2, h3, h4, h5, h6⟩ := hg
  refine w_ct Tryz.func90 rfl Tryz.ntmps90 rfl fun w B => ?_
  refine W1 fun g1 => ?_
  rw [decide_eq_true (show (3 : Int) ≤ g.m by omega)]
  refine W ?_
  rw [decide_eq_true (show (g.m : Int) ≤ 16 by omega)]
  refine W ?_
  rw [decide_eq_true (show (1 : Int) ≤ g.s by omega)]
  refine W ?_
  rw [decide_eq_true (show (g.s : Int) ≤ 64 by omega)]
  refine W ?_
  rw [decide_eq_true (show (40 : Int) ≤ g.r by omega)]
  refine W ?_
  rw [decide_eq_true (show (g.r : Int) ≤ 256 by omega)]
  refine W ?_
  exact fin ⟨_, rfl, rfl, rfl⟩
theorem f49 {g : Geo} (hg : GeoOk g) : CtV Tryz.prog 49 [GV g] [] (I g.blocks) := by
  have h90 := f90 hg
  have hg' := hg
  obtain ⟨h1, h2, h3, h4, h5, h6⟩ := hg
  refine w_ct Tryz.func49 rfl Tryz.ntmps49 rfl fun w B => ?_
  refine W1 fun g1 => ?_
  refine cv h90 ?_
  refine W ?_
  have hb : (g.s : Int) * ((g.m : Int) - 1) = (g.blocks : Int) := by
    unfold Geo.blocks
    rw [Int.natCast_mul, Int.natCast_sub (by omega)]; rfl
  have hb2 : g.blocks ≤ 64 * 16 := Nat.mul_le_mul (by omega) (by omega)
  have hb3 : (g.s : Int) * ((g.m : Int) - 1) ≤ 1024 := by omega
  have hb4 : (0 : Int) ≤ (g.s : Int) * ((g.m : Int) - 1) := by omega
  refine W ?_
  exact fin (v := .int .i64 ((g.s : Int) * ((g.m : Int) - 1))) ⟨_, rfl, by rw [hb], rfl⟩
/-- a model: its blocks -/
def ModC (gm : Nat) (l : List Blk) : Chunk := exC 60 (fun x : Nat × Nat => [cl gm [.slice (some ⟨x.1, 0, none⟩) l.length x.2] 59, rowc eBlk 51 l x.1 x.2])
theorem f24 {g : Geo} (hg : GeoOk g) : Ct Tryz.prog 24 [GV g] [] (fun v L => ∃ gm, v = PP gm ∧ L = [ModC gm (List.replicate g.blocks blk0)]) := by
  have h49 := f49 hg
  have hb2 : g.blocks ≤ 64 * 16 := Nat.mul_le_mul hg.s64 (by have := hg.m16; omega)
  have hb1 : 1 ≤ g.blocks := Nat.mul_pos hg.s1 (by have := hg.m3; omega)
  refine w_ct Tryz.func24 rfl Tryz.ntmps24 rfl fun w B => ?_
  refine W1 fun g1 => ?_
  refine cv h49 ?_
  refine W ?_
  refine w_mk (E := eBlk) blk0 g.blocks rfl inferInstance rfl rfl rfl (by simp only [maxLen]; omega) (by omega) fun gs => ?_
  refine W1 fun g2 => ?_
  refine finE ⟨_, rfl, g2, rfl, rfl⟩ ?_
  refine ent_ex (gs, g.blocks) ?_
  simp only [List.length_replicate]
  exact ent_
def geoN (a b c : Nat) : Geo := ⟨3 + a % 4, 1 + b % 30, 40 + c % 24⟩
theorem geoN_ok {a b c : Nat} : GeoOk (geoN a b c) := ⟨by show 3 ≤ 3 + a % 4; omega, by show 3 + a % 4 ≤ 16; omega, by show 1 ≤ 1 + b % 30; omega, by show 1 + b % 30 ≤ 64; omega, by show 40 ≤ 40 + c % 24; omega, by show 40 + c % 24 ≤ 256; omega⟩
theorem f6 {a b c : Nat} (ha : a ≤ 255) (hb : b ≤ 255) (hc : c ≤ 255) : CtV Tryz.prog 6 [.int .u8 (a : Nat), .int .u8 (b : Nat), .int .u8 (c : Nat)] [] (GV (geoN a b c)) := by
  refine w_ct Tryz.func6 rfl Tryz.ntmps6 rfl fun w B => ?_
  refine W1 fun g1 => ?_
  refine fin (v := A [.int .i64 (3 + (a : Int) % 4), .int .i64 (1 + (b : Int) % 30), .int .i64 (40 + (c : Int) % 24)]) ⟨_, rfl, ?_, rfl⟩
  show A _ = A [I (3 + a % 4 : Nat), I (1 + b % 30 : Nat), I (40 + c % 24 : Nat)]
  rw [show ((3 + a % 4 : Nat) : Int) = 3 + (a : Int) % 4 by omega, show ((1 + b % 30 : Nat) : Int) = 1 + (b : Int) % 30 by omega, show ((40 + c % 24 : Nat) : Int) = 40 + (c : Int) % 24 by omega]
theorem f22 {g : Geo} (hg : GeoOk g) : Ct Tryz.prog 22 [GV g] [] (fun v L => ∃ (a : Option Addr) (c : Nat), v = .slice a (List.replicate g.m (2 + g.s) ++ [10 + g.r]).length c ∧ L = [sv eNat 3 (List.replicate g.m (2 + g.s) ++ [10 + g.r]) a c]) := by
  obtain ⟨h1, h2, h3, h4, h5, h6⟩ := hg
  refine w_ct Tryz.func22 rfl Tryz.ntmps22 rfl fun w B => ?_
  refine W1 fun g1 => ?_
  refine g_nil eNat 3 rfl ?_
  refine w_loop (γ := Nat × List Nat × Option Addr × Nat) (fun ⟨j, l, a, c⟩ => [(1, PP g1), (3, .slice a l.length c), (4, I j)]) (fun ⟨j, l, a, c⟩ => [sv eNat 3 l a c, cl g1 (geL g) 27]) (fun x => x.1 ≤ g.m ∧ x.2.1 = List.replicate x.1 (2 + g.s)) (fun x => g.m - x.1) (0, [], none, 0) sl_ ent_ ⟨Nat.zero_le _, rfl⟩ fun ⟨j, l, a, c⟩ B ⟨hj, hl⟩ => ?_
  dsimp only at hj hl ⊢
  have hll : l.length = j := by rw [hl]; simp
  refine W ?_
  refine w_if rfl (fun h => ?_) (fun h => ?_)
  · refine W ?_
    refine w_bs1 eNat (2 + g.s) rfl rfl rfl (by decide) fun gt => ?_
    refine W ?_
    refine w_ap eNat sel_ (rd_row mem_) (by simp; omega) (by simp; omega) fun a c' => ?_
    refine W ?_
    exact w_land rfl (w_round (j + 1, l ++ [2 + g.s], a, c') ⟨by show j + 1 ≤ g.m; omega, by show l ++ [2 + g.s] = _; rw [hl]; exact (List.replicate_succ').symm⟩ (by show g.m - (j + 1) < g.m - j; omega) sl_ ent_)
  · obtain rfl : j = g.m := by omega
    subst hl
    refine W ?_
    refine w_bs1 eNat (10 + g.r) rfl rfl rfl (by decide) fun gt => ?_
    refine W ?_
    refine w_ap eNat sel_ (rd_row mem_) (by simp; omega) (by simp; omega) fun a c' => ?_
    refine W ?_
    exact fin ⟨_, rfl, a, c', rfl, rfl⟩
end Go.Proofs.YtnilejkfbcnkkaaGreatDoor.V
end
section
set_option maxRecDepth 100000
set_option maxHeartbeats 2000000
namespace Go.Proofs.YtnilejkfbcnkkaaGreatDoor.V
variable [GlK]
open Go Go.RowKit
attribute [local irreducible] Yields cl blk pur rowc sv exC fo

/-- what came in, as it stood -/
def inZ (Z : World) : Chunk := ⟨32, fun B => ∀ i o, i ≠ 0 → Z.heap[i]? = some o → (i, o) ∈ B⟩
theorem rd_in {Z w0 : World} {S : Nat → Prop} {H : Hp} {b o : Nat} {cs : List Value} (hm : inZ Z ∈ H) (hb : b ≠ 0) (hr : Z.rangeAt b o cs) : Rd w0 S H b o cs := by
  intro w hw j v hj
  have h := hr j v hj
  obtain ⟨B, hB, hw⟩ := hw
  obtain ⟨B1, h1, h2⟩ := Sat.mem hm hB
  unfold World.cell? at h ⊢
  cases e : Z.heap[b]? with
  | none => rw [e] at h; cases h
  | some ob =>
    have h3 := hw.at_ (b, ob) (h2 _ (h1 b ob hb e))
    have h3 : w.heap[b]? = some ob := h3
    rw [e] at h
    show (match w.heap[b]? with | some (.cells c _ _) => _ | _ => _) = _
    rw [h3]; exact h
theorem rangeAt_sg {Z : World} {b o off k : Nat} {cs vs : List Value} (h : Z.rangeAt b o cs) (hs : Sg cs off k vs) : Z.rangeAt b (o + off) vs := fun j v hj => by
  have := h (off + j) v (hs.2 j v hj)
  rwa [← Nat.add_assoc] at this
/-- a block's number, out of any int -/
def idx (n : Int) (b : Nat) : Nat := (wrapv .u64 n % (b : Int)).toNat
theorem wrapv_64 (z : Int) : 0 ≤ wrapv .u64 z ∧ wrapv .u64 z ≤ 18446744073709551615 := by have := wrap_range .u64 (.inr (.inr (.inr rfl))) z; simp only [IntKind.bits] at this; unfold wrapv; omega
theorem idx_eq {n : Int} {b : Nat} (hb : 0 < b) : wrapv .u64 n % (b : Int) = ((idx n b : Nat) : Int) ∧ idx n b < b := by
  have h := (wrapv_64 n).1
  have h1 := Int.emod_nonneg (wrapv .u64 n) (show (b : Int) ≠ 0 by omega)
  have h2 := Int.emod_lt_of_pos (wrapv .u64 n) (show (0 : Int) < b by omega)
  unfold idx
  omega
/-- what a model makes of writes -/
def mws (b : Nat) (l : List (Int × Blk)) : List (Nat × Blk) := (l.take 16).map fun p => (idx p.1 b, p.2)
section
variable {gm : Nat} {L : List Blk} {l : List (Int × Blk)} {a0 : Option Addr} {b0 o0 c0 : Nat} {Z : World}
theorem f7 (hL : 0 < L.length) (hL2 : L.length < 100000) (hs : Sl eWr Z l a0 b0 o0 c0) (hb0 : 0 < l.length → b0 ≠ 0) :
    Ct Tryz.prog 7 [PP gm, .slice a0 l.length c0] [ModC gm L, inZ Z] (fun v M => ∃ (a : Option Addr) (c : Nat), v = .slice a (mws L.length l).length c ∧ M = [ModC gm L, inZ Z, sv eWt 53 (mws L.length l) a c]) := by
  refine w_ct Tryz.func7 rfl Tryz.ntmps7 rfl fun w B => ?_
  refine g_ex rfl Sel.hd fun ⟨gl, gc⟩ => ?_
  refine W ?_
  refine g_nil eWt 53 rfl ?_
  refine w_loop (γ := Nat × List (Nat × Blk) × Option Addr × Nat) (fun ⟨j, x, a, c⟩ => [(0, PP gm), (1, .slice a0 l.length c0), (5, .slice a x.length c), (6, I j)])
    (fun ⟨j, x, a, c⟩ => [cl gm [.slice (some ⟨gl, 0, none⟩) L.length gc] 59, rowc eBlk 51 L gl gc, inZ Z, sv eWt 53 x a c]) (fun x => x.1 ≤ l.length ∧ x.1 ≤ 16 ∧ x.2.1 = (l.take x.1).map fun p => (idx p.1 L.length, p.2)) (fun x => 16 - x.1) (0, [], none, 0) sl_ ent_ ⟨Nat.zero_le _, Nat.zero_le _, rfl⟩ fun ⟨j, x, a, c⟩ B ⟨hj, hj2, hx⟩ => ?_
  dsimp only at hj hj2 hx ⊢
  have hxl : x.length = j := by rw [hx]; simp; omega
  refine W ?_
  by_cases h1 : j < l.length
  · rw [decide_eq_true (show (j : Int) < (l.length : Nat) by omega)]
    refine W ?_
    by_cases h2 : j < 16
    · rw [decide_eq_true (show (j : Int) < 16 by omega)]
      refine W ?_
      have hb := hb0 (by omega)
      obtain rfl := hs.at_ (by omega)
      have hr : Z.rangeAt b0 (o0 + j * 65) (.int .i64 l[j].1 :: bl l[j].2) := hs.rd j h1
      have hr1 : Z.rangeAt b0 (o0 + j * 65) [.int .i64 l[j].1] := rangeAt_sg (o := o0 + j * 65) (off := 0) hr (Sg.one (c := .int .i64 l[j].1 :: bl l[j].2) (off := 0) rfl)
      have hr2 : Z.rangeAt b0 (o0 + j * 65 + 1) (bl l[j].2) := rangeAt_sg (o := o0 + j * 65) (off := 1) hr (Sg.tl (Sg.whole (k := 64)))
      obtain ⟨hi, hlt⟩ := idx_eq (n := l[j].1) hL
      have hu := wrapv_64 l[j].1
      have hi0 : 0 ≤ wrapv .u64 l[j].1 % (L.length : Int) := by omega
      have hi1 : wrapv .u64 l[j].1 % (L.length : Int) < 100000 := by omega
      first | refine w_ke rfl (by decide +kernel) rfl (qn rfl (y_ixSl (o' := o0 + j * 65) rfl rfl Tryz.underlying29 z53.h (by omega) (by omega) (by simp))) ?_ | refine w_kl rfl (by decide +kernel) rfl (qn rfl (y_ixSl (o' := o0 + j * 65) rfl rfl Tryz.underlying29 z53.h (by omega) (by omega) (by simp))) ?_
      refine W ?_
      first | refine w_ke rfl (by decide +kernel) rfl (qn rfl (y_load (v := .int .i64 l[j].1) rfl Tryz.underlying3 rfl (rd_in mem_ hb hr1))) ?_ | refine w_kl rfl (by decide +kernel) rfl (qn rfl (y_load (v := .int .i64 l[j].1) rfl Tryz.underlying3 rfl (rd_in mem_ hb hr1))) ?_
      refine W ?_
      first | refine w_ke rfl (by decide +kernel) rfl (qn rfl (y_ixSl (o' := o0 + j * 65) rfl rfl Tryz.underlying29 z53.h (by omega) (by omega) (by simp))) ?_ | refine w_kl rfl (by decide +kernel) rfl (qn rfl (y_ixSl (o' := o0 + j * 65) rfl rfl Tryz.underlying29 z53.h (by omega) (by omega) (by simp))) ?_
      refine W ?_
      first | refine w_ke rfl (by decide +kernel) rfl (qn rfl (y_loadN (cs := bl l[j].2) rfl Tryz.underlying51 rfl (by rw [bl_len]; exact z51.h) (rd_in mem_ hb hr2))) ?_ | refine w_kl rfl (by decide +kernel) rfl (qn rfl (y_loadN (cs := bl l[j].2) rfl Tryz.underlying51 rfl (by rw [bl_len]; exact z51.h) (rd_in mem_ hb hr2))) ?_
      refine W ?_
      rw [hi]
      refine w_bs1 eWt (idx l[j].1 L.length, l[j].2) rfl rfl rfl (by decide) fun gt => ?_
      refine W ?_
      refine w_ap eWt (sel_ : Sel (sv eWt 53 x a c) _ _) (rd_row (show rowc eWt 53 [(idx l[j].1 L.length, l[j].2)] gt 1 ∈ _ from mem_)) (by simp; omega) (by simp; omega) fun a2 c2 => ?_
      refine W ?_
      exact w_land rfl (w_round (j + 1, x ++ [(idx l[j].1 L.length, l[j].2)], a2, c2) ⟨by show j + 1 ≤ _; omega, by show j + 1 ≤ _; omega, by show _ = _; rw [hx, List.take_succ_eq_append_getElem h1, List.map_append]; rfl⟩ (by show 16 - (j + 1) < 16 - j; omega) sl_ ent_)
    · rw [decide_eq_false (show ¬ (j : Int) < 16 by omega)]
      have hm : mws L.length l = x := by unfold mws; rw [hx, show j = 16 by omega]
      refine W ?_
      exact finE ⟨_, rfl, a, c, by rw [hm], rfl⟩ (by rw [hm]; exact ent_ex (gl, gc) ent_)
  · rw [decide_eq_false (show ¬ (j : Int) < (l.length : Nat) by omega)]
    have hm : mws L.length l = x := by unfold mws; rw [hx, show j = l.length by omega, List.take_length, List.take_of_length_le (by omega)]
    refine W ?_
    exact finE ⟨_, rfl, a, c, by rw [hm], rfl⟩ (by rw [hm]; exact ent_ex (gl, gc) ent_)
/-- a model, with writes put -/
def putM : List (Nat × Blk) → List Blk → List Blk
  | [], L => L
  | w :: ws, L => putM ws (L.set w.1 w.2)
theorem putM_len : ∀ {ws : List (Nat × Blk)} {L : List Blk}, (putM ws L).length = L.length
  | [], _ => rfl
  | w :: ws, L => by unfold putM; rw [putM_len, List.length_set]
theorem putM_app : ∀ {ws ws' : List (Nat × Blk)} {L : List Blk}, putM (ws ++ ws') L = putM ws' (putM ws L)
  | [], _, _ => rfl
  | w :: ws, ws', L => by show putM (ws ++ ws') _ = putM ws' (putM ws _); exact putM_app
theorem f9 {ws : List (Nat × Blk)} {a : Option Addr} {c : Nat} (hw : ∀ w ∈ ws, w.1 < L.length) (hwl : ws.length ≤ 16) (hL2 : L.length < 100000) :
    Ct Tryz.prog 9 [PP gm, .slice a ws.length c] [ModC gm L, sv eWt 53 ws a c] (fun v M => M = [ModC gm (putM ws L), sv eWt 53 ws a c] ∧ v = T []) := by
  refine w_ct Tryz.func9 rfl Tryz.ntmps9 rfl fun w B => ?_
  refine W ?_
  refine w_loop (γ := Nat) (fun j => [(0, PP gm), (1, .slice a ws.length c), (4, I j)]) (fun j => [ModC gm (putM (ws.take j) L), sv eWt 53 ws a c]) (fun j => j ≤ ws.length) (fun j => ws.length - j) 0 sl_ ent_ (Nat.zero_le _) fun j B hj => ?_
  refine W ?_
  refine w_if rfl (fun h => ?_) (fun h => ?_)
  · have hlt : j < ws.length := by omega
    have hin := hw ws[j] (List.getElem_mem hlt)
    have hlen : (putM (ws.take j) L).length = L.length := putM_len
    have e1 : putM (ws.take (j + 1)) L = (putM (ws.take j) L).set ws[j].1 ws[j].2 := by rw [List.take_succ_eq_append_getElem hlt, putM_app]; rfl
    refine w_skip ?_
    refine g_ex rfl Sel.hd fun ⟨gl, gc⟩ => ?_
    refine g_svp rfl (sel_ : Sel (sv eWt 53 ws a c) _ _) (by omega) fun ga hga => ?_
    subst hga
    refine W ?_
    rw [decide_eq_true (show (0 : Int) ≤ (ws[j].1 : Nat) by omega)]
    refine W ?_
    rw [hlen, decide_eq_true (show ((ws[j].1 : Nat) : Int) < (L.length : Nat) by omega)]
    refine W ?_
    refine w_stE (E := eBlk) (l := putM (ws.take j) L) (i := ws[j].1) (x := ws[j].2) inferInstance rfl rfl rfl (by omega) rfl upd_ ?_
    refine W ?_
    refine w_land rfl (w_round (j + 1) (by show j + 1 ≤ ws.length; omega) (by show ws.length - (j + 1) < ws.length - j; omega) sl_ ?_)
    refine Ent.trans (ent_ex (gl, gc) ?_ : Ent _ (ModC gm (putM (ws.take (j + 1)) L) :: [rowc eWt 53 ws ga c])) (Ent.cons _ (ent_sv ent_))
    have e2 : (putM (ws.take (j + 1)) L).length = L.length := putM_len
    dsimp only
    rw [e2, e1]
    exact ent_
  · obtain rfl : j = ws.length := by omega
    rw [List.take_length]
    refine W ?_
    exact w_ends rfl (finN (fin ⟨_, rfl, rfl, rfl⟩))
end
end Go.Proofs.YtnilejkfbcnkkaaGreatDoor.V
end
