/- Proved: what the whole keeps: the model's blocks, at most one device out of order; how the whole is made, whether all is in order, how a device fails; whether all is in order, how a device fails, a spare, what is asked; what says, holds and works answer, and a commit; the conditions stand in the statements. -/
import Derived.Test.YtnilejkfbcnkkaaGreatDoorM25
set_option linter.unusedVariables false
set_option linter.unusedSimpArgs false
set_option linter.unusedSectionVars false
section
set_option maxRecDepth 100000
set_option maxHeartbeats 1000000
namespace Go.Proofs.YtnilejkfbcnkkaaGreatDoor.V
variable [GlK]
open Go Go.RowKit

/-- what a transaction holds behind writes -/
def dft : List (Nat × Blk) → List (Nat × Blk) → List (Nat × Blk)
  | [], m => m
  | w :: ws, m => dft ws (putL m w.1 w.2)
theorem dft_app : ∀ {ws ws' m : List (Nat × Blk)}, dft (ws ++ ws') m = dft ws' (dft ws m)
  | [], _, _ => rfl
  | w :: ws, ws', m => by show dft (ws ++ ws') _ = dft ws' (dft ws _); exact dft_app
theorem putL_len {m : List (Nat × Blk)} {k : Nat} {x : Blk} : (putL m k x).length ≤ m.length + 1 := by
  unfold putL; split <;> simp
theorem putL_in {m : List (Nat × Blk)} {k b : Nat} {x : Blk} (hk : k < b) (hm : ∀ p ∈ m, p.1 < b) : ∀ p ∈ putL m k x, p.1 < b := by
  intro p hp
  have h1 : p.1 ∈ (putL m k x).map Prod.fst := List.mem_map_of_mem hp
  rw [putL_fst] at h1
  split at h1
  · obtain ⟨q, hq, e⟩ := List.mem_map.1 h1; rw [← e]; exact hm q hq
  · rcases List.mem_append.1 h1 with h | h
    · obtain ⟨q, hq, e⟩ := List.mem_map.1 h; rw [← e]; exact hm q hq
    · simp at h; omega
theorem dft_len : ∀ {ws m : List (Nat × Blk)}, (dft ws m).length ≤ m.length + ws.length
  | [], m => Nat.le_refl _
  | w :: ws, m => by
    have := dft_len (ws := ws) (m := putL m w.1 w.2)
    have := putL_len (m := m) (k := w.1) (x := w.2)
    show (dft ws _).length ≤ _
    simp; omega
theorem dft_in {b : Nat} : ∀ {ws m : List (Nat × Blk)}, (∀ w ∈ ws, w.1 < b) → (∀ p ∈ m, p.1 < b) → ∀ p ∈ dft ws m, p.1 < b
  | [], _, _, h => h
  | w :: ws, m, hw, h => dft_in (ws := ws) (fun v hv => hw v (List.mem_cons_of_mem _ hv)) (putL_in (hw w (List.mem_cons_self ..)) h)
theorem dft_lkp {b : Nat} {ws : List (Nat × Blk)} : lkp (dft ws []) b = lastO ws b := by
  refine snoc_ind (P := fun ws => lkp (dft ws []) b = lastO ws b) rfl (fun l x ih => ?_) ws
  rw [dft_app, lastO_snoc]
  show lkp (putL (dft l []) x.1 x.2) b = _
  rw [lkp_putL, ih]
  by_cases h : x.1 = b
  · rw [if_pos h, if_pos h.symm]
  · rw [if_neg h, if_neg (fun e => h e.symm)]
theorem lastO_map {f : Nat → Blk} {b : Nat} (ks : List Nat) : lastO (ks.map fun k => (k, f k)) b = if b ∈ ks then some (f b) else none := by
  refine snoc_ind (P := fun ks => lastO (ks.map fun k => (k, f k)) b = if b ∈ ks then some (f b) else none) (by simp [lastO]) (fun l x ih => ?_) ks
  rw [List.map_append, List.map_singleton, lastO_snoc, ih]
  show (if x = b then some (f x) else _) = _
  by_cases h : x = b
  · subst h; simp
  · have : b ∈ l ++ [x] ↔ b ∈ l := by simp; intro e; exact absurd e.symm h
    rw [if_neg h]; simp only [this]
theorem wrs_last {m : List (Nat × Blk)} {b : Nat} : lastO (wrs m) b = lkp m b := by
  unfold wrs
  rw [lastO_map (f := fun k => (lkp m k).getD blk0)]
  have hm : b ∈ srt (m.map Prod.fst) ↔ b ∈ m.map Prod.fst := srt_perm.mem_iff
  cases h : lkp m b with
  | none =>
    rw [if_neg]
    rw [hm]
    intro hb
    obtain ⟨p, hp, e⟩ := List.mem_map.1 hb
    exact lkp_none.1 h p hp e
  | some x =>
    rw [if_pos (hm.2 (List.mem_map_of_mem (lkp_mem h) : (b, x).1 ∈ _))]
    rfl
theorem wrs_dft {ws : List (Nat × Blk)} {b : Nat} : lastO (wrs (dft ws [])) b = lastO ws b := wrs_last.trans dft_lkp
theorem putM_get {ws : List (Nat × Blk)} {L : List Blk} : ∀ {n : Nat} (h : n < L.length), (putM ws L)[n]? = some ((lastO ws n).getD L[n]) := by
  refine snoc_ind (P := fun ws => ∀ {n : Nat} (h : n < L.length), (putM ws L)[n]? = some ((lastO ws n).getD L[n])) (fun {n} h => ?_) (fun l x ih n h => ?_) ws
  · show L[n]? = some L[n]
    exact List.getElem?_eq_getElem h
  · rw [putM_app, lastO_snoc]
    show ((putM l L).set x.1 x.2)[n]? = _
    by_cases e : x.1 = n
    · rw [if_pos e, e, List.getElem?_set_self (by rw [putM_len]; exact h)]; rfl
    · rw [if_neg e, List.getElem?_set_ne e, ih h]
theorem blk_lt {g : Geo} (hg : GeoOk g) : 0 < g.blocks ∧ g.blocks ≤ 1024 :=
  ⟨Nat.mul_pos hg.s1 (by have := hg.m3; omega), Nat.mul_le_mul hg.s64 (show g.m - 1 ≤ 16 by have := hg.m16; omega)⟩

/-- what the whole keeps: the model's blocks are the array's -/
structure AI (g : Geo) (C : Nat → Nat → Blk) (V : Vlt) (L : List Blk) : Prop where
  k : VK C V
  ge : V.h.r.g = g
  len : L.length = g.blocks
  eq : ∀ n (h : n < L.length), g.cell C n = L[n]
theorem AI.vk {g : Geo} {C : Nat → Nat → Blk} {V V' : Vlt} {L : List Blk} (a : AI g C V L) (k : VK C V') (hg : V'.h.r.g = V.h.r.g) : AI g C V' L := ⟨k, hg.trans a.ge, a.len, a.eq⟩
theorem AI.put {g : Geo} {C C' : Nat → Nat → Blk} {V V' : Vlt} {L : List Blk} {ws : List (Nat × Blk)} (a : AI g C V L) (k : VK C' V') (hg : V'.h.r.g = V.h.r.g) (hc : ∀ b, b < g.blocks → g.cell C' b = (lastO ws b).getD (g.cell C b)) : AI g C' V' (putM ws L) := by
  refine ⟨k, hg.trans a.ge, putM_len.trans a.len, fun n h => ?_⟩
  have hn : n < L.length := by rwa [putM_len] at h
  have h1 := putM_get (ws := ws) hn
  rw [List.getElem?_eq_getElem h] at h1
  rw [hc n (by rw [← a.len]; exact hn), a.eq n hn]
  exact (Option.some.inj h1).symm
/-- at most one device is out of order -/
structure O1 (d : Nat) (V : Vlt) : Prop where
  le : d ≤ V.h.r.g.m
  dd : ∀ j, j ≠ d → V.b.dead j = false
  st : ∀ j, j < 16 → j ≠ d → V.h.r.st j = 0
  gn : d ≠ V.h.r.g.m → V.h.r.gone = false
  gd : V.h.r.gone = true → V.b.dead V.h.r.g.m = true
def OO (V : Vlt) : Prop := ∃ d, O1 d V
theorem cnt_lo {f : Nat → Nat} {d : Nat} : ∀ {n : Nat}, (∀ j, j < n → j ≠ d → f j = 0) → n ≤ cnt f 0 n + (if d < n then 1 else 0)
  | 0, _ => Nat.zero_le _
  | n + 1, h => by
    have ih := cnt_lo (f := f) (d := d) (n := n) fun j hj => h j (by omega)
    have := h n (by omega)
    unfold cnt
    by_cases e : n = d
    · subst e
      rw [if_neg (Nat.lt_irrefl _)] at ih
      rw [if_pos (Nat.lt_succ_self _)]; omega
    · rw [if_pos (this e)]
      by_cases e2 : d < n
      · rw [if_pos e2] at ih; rw [if_pos (by omega)]; omega
      · rw [if_neg e2] at ih; omega
theorem OO.ne5 {C : Nat → Nat → Blk} {V : Vlt} (o : OO V) (k : VK C V) : V.h.r.state ≠ 5 := by
  obtain ⟨d, o⟩ := o
  intro h5
  rw [state5_iff] at h5
  have h16 := k.g.m16
  have hle := o.le
  have h1 := cnt_lo (f := V.h.r.st) (d := d) (n := 16) o.st
  have hms : V.h.r.missing = 16 - cnt V.h.r.st 0 16 := rfl
  have h2 : cnt V.h.r.st 0 16 + 1 ≥ 16 := by split at h1 <;> omega
  by_cases e : d = V.h.r.g.m
  · have h3 : 16 ≤ cnt V.h.r.st 0 16 + (if 16 < 16 then 1 else 0) := cnt_lo (f := V.h.r.st) (d := 16) (n := 16) (fun j hj _ => by
      by_cases e2 : j = d
      · rw [e2]; exact k.hb.ok.hi d (by omega) (by omega)
      · exact o.st j hj e2)
    rw [if_neg (Nat.lt_irrefl _)] at h3
    omega
  · have := o.gn e
    rcases h5 with h | ⟨_, h⟩
    · omega
    · rw [this] at h; cases h
theorem OO.hv {V V' : Vlt} (o : OO V) (m : HV V V') : OO V' := by
  obtain ⟨d, o⟩ := o
  refine ⟨d, by rw [m.g]; exact o.le, by rw [m.d]; exact o.dd, fun j hj hn => ?_, fun hn => ?_, fun hg => ?_⟩
  · rcases m.st j with e | ⟨_, e, _⟩ | ⟨e, _⟩
    · rw [e]; exact o.st j hj hn
    · rw [o.dd j hn] at e; cases e
    · rw [o.st j hj hn] at e; cases e
  · rw [m.g] at hn
    rcases m.gone with e | ⟨_, e⟩
    · rw [e]; exact o.gn hn
    · rw [o.dd _ (fun h => hn h.symm)] at e; cases e
  · rw [m.g, m.d]
    rcases m.gone with e | ⟨_, e⟩
    · rw [e] at hg; exact o.gd hg
    · exact e
theorem OO.mv {V V' : Vlt} (o : OO V) (m : MV V V') : OO V' := o.hv m.hv
/-- what an asking comes to -/
structure AsQ (C : Nat → Nat → Blk) (c : Nat) (V V' : Vlt) (e : Int) : Prop where
  k : VK C V'
  g : V'.h.r.g = V.h.r.g
  b : V'.b.k ≤ V.b.k + c
  o : OO V → OO V' ∧ (e = 0 ∨ e = 17 ∨ e = 13)
theorem AsQ.refl {C : Nat → Nat → Blk} {c : Nat} {V : Vlt} (k : VK C V) : AsQ C c V V 0 := ⟨k, rfl, by omega, fun o => ⟨o, .inl rfl⟩⟩
theorem VSx.asq {C : Nat → Nat → Blk} {c : Nat} {V V' : Vlt} {e : Int} (q : VS C C c V V') (h : e = 0 ∨ e = 17 ∨ e = 13 ∨ V'.h.r.state = 5) : AsQ C c V V' e :=
  ⟨q.ok, q.mv.g, q.k, fun o => ⟨o.mv q.mv, by
    rcases h with h | h | h | h
    · exact .inl h
    · exact .inr (.inl h)
    · exact .inr (.inr h)
    · exact absurd h ((o.mv q.mv).ne5 q.ok)⟩⟩
theorem AsQ.mono {C : Nat → Nat → Blk} {c c' : Nat} {V V' : Vlt} {e : Int} (q : AsQ C c V V' e) (h : c ≤ c') : AsQ C c' V V' e := ⟨q.k, q.g, by have := q.b; omega, q.o⟩
theorem AsQ.then {C : Nat → Nat → Blk} {c c' : Nat} {V V1 V' : Vlt} {e e' : Int} (p : AsQ C c V V1 e) (q : AsQ C c' V1 V' e') : AsQ C (c + c') V V' e' := ⟨q.k, q.g.trans p.g, by have := q.b; have := p.b; omega, fun o => q.o (p.o o).1⟩
theorem FlQ.asq {C : Nat → Nat → Blk} {c : Nat} {V V' : Vlt} {e : Int} (q : FlQ C c V V' (.int .i64 e)) : AsQ C c V V' e := by
  obtain ⟨h, (⟨e, _⟩ | ⟨_, e⟩)⟩ := q
  · exact h.asq (.inl (by injection e))
  · exact h.asq (.inr (.inr (.inr e)))
theorem StpQ.asq {C : Nat → Nat → Blk} {V V' : Vlt} {w : Bool} {e : Int} (h : RfQ C 30000000 V V' e) (h2 : e = 0 ∨ e = 16 ∨ e = 17) : AsQ C 30000000 V V' e := by
  obtain ⟨h1, hk, hb, h16⟩ := h
  refine ⟨hk, h1.g, hb, fun o => ⟨o.hv h1, ?_⟩⟩
  rcases h2 with h | h | h
  · exact .inl h
  · exact absurd (h16 h) ((o.hv h1).ne5 hk)
  · exact .inr (.inl h)
theorem RepQ.asq {C : Nat → Nat → Blk} {V V' : Vlt} {e : Int} (h : VS C C 20000 V V') (h16 : e = 16 → V'.h.r.state = 5) (h2 : e = 0 ∨ e = 16 ∨ e = 17) : AsQ C 20000 V V' e :=
  h.asq (by
    rcases h2 with h | h | h
    · exact .inl h
    · exact .inr (.inr (.inr (h16 h)))
    · exact .inr (.inl h))
theorem SpQ.asq {C : Nat → Nat → Blk} {j : Nat} {V V' : Vlt} {e : Int} (k : VK C V) (hj : j < V.h.r.g.m) (q : SpQ C j V V' (.int .i64 e)) : AsQ C 10000 V V' e := by
  rcases q with ⟨h, hv, _⟩ | ⟨_, hv, h⟩ | ⟨h, hk, hb, _, hg, hgn, hdj, hw, hdd, hst⟩
  · exact hv.asq (.inr (.inl (by injection h)))
  · exact hv.asq (.inr (.inr (.inr h)))
  · refine ⟨hk, hg, hb, fun o => ⟨?_, .inl (by injection h)⟩⟩
    obtain ⟨d, o⟩ := o
    have h16 := k.g.m16
    have hjd : j = d := by
      by_cases e : j = d
      · exact e
      · rcases hw with h | h
        · rw [o.st j (by omega) e] at h; cases h
        · rw [o.dd j e] at h; cases h
    subst hjd
    refine ⟨j, by rw [hg]; exact o.le, fun i hi => (hdd i hi).trans (o.dd i hi), fun i h16 hi => ?_, fun hn => ?_, fun h => ?_⟩
    · rcases hst i hi with e | ⟨e, _⟩
      · rw [e]; exact o.st i h16 hi
      · rw [o.dd i hi] at e; cases e
    · rw [hgn]; rw [hg] at hn; exact o.gn hn
    · rw [hg, hdd _ (by omega)]; rw [hgn] at h; exact o.gd h
theorem AlQ.asq {C : Nat → Nat → Blk} {V V' : Vlt} {e : Int} (k : VK C V) (q : AlQ C V V' (.int .i64 e)) : AsQ C 10000 V V' e := by
  rcases q with ⟨h, rfl, _⟩ | ⟨_, rfl, h⟩ | ⟨h, hk, hb, _, hg, hgn, hgo, hdm, hdd, hst⟩
  · exact (VS.refl k).asq (.inr (.inl (by injection h)))
  · exact (VS.refl k).asq (.inr (.inr (.inr h)))
  · refine ⟨hk, hg, hb, fun o => ⟨?_, .inl (by injection h)⟩⟩
    obtain ⟨d, o⟩ := o
    have hd : d = V.h.r.g.m := by
      by_cases e : d = V.h.r.g.m
      · exact e
      · rw [o.gn e] at hgo; cases hgo
    subst hd
    refine ⟨V.h.r.g.m, by rw [hg]; exact Nat.le_refl _, fun i hi => (hdd i hi).trans (o.dd i hi), fun i h16 hi => ?_, fun hn => absurd (by rw [hg]) hn, fun h => by rw [hgn] at h; cases h⟩
    rcases hst i with e | ⟨_, e, _⟩
    · rw [e]; exact o.st i h16 hi
    · rw [o.dd i hi] at e; cases e
/-- a device that fails -/
def Ben.fail (b : Ben) (d : Nat) (dv : Dev) : Ben := ⟨b.ds.set d { dv with dead := true }, b.k⟩
theorem fail_get {b : Ben} {d j : Nat} {dv : Dev} (hd : b.ds[d]? = some dv) : (b.fail d dv).ds[j]? = if j = d then some { dv with dead := true } else b.ds[j]? := by
  have hlt : d < b.ds.length := (List.getElem?_eq_some_iff.1 hd).1
  show (b.ds.set d _)[j]? = _
  by_cases e : j = d
  · subst e; rw [if_pos rfl, List.getElem?_set_self hlt]
  · rw [if_neg e, List.getElem?_set_ne (fun h => e h.symm)]
theorem fail_dead {b : Ben} {d j : Nat} {dv : Dev} (hd : b.ds[d]? = some dv) : (b.fail d dv).dead j = if j = d then true else b.dead j := by
  unfold Ben.dead
  rw [fail_get hd]
  by_cases e : j = d
  · simp only [if_pos e]
  · simp only [if_neg e]
theorem fail_rd {b : Ben} {d j i : Nat} {dv : Dev} (hd : b.ds[d]? = some dv) : (b.fail d dv).rd j i = b.rd j i := by
  unfold Ben.rd
  rw [fail_get hd]
  by_cases e : j = d
  · subst e; simp only [if_true, hd]
  · simp only [if_neg e]
theorem VK.fail {C : Nat → Nat → Blk} {h : Hul} {b : Ben} {s : Shf} {l : Option (Nat × Lg)} {d : Nat} {dv : Dev} (k : VK C ⟨h, b, s, l⟩) (hd : b.ds[d]? = some dv) : VK C ⟨h, b.fail d dv, s, l⟩ := by
  refine ⟨⟨⟨k.hb.ok, ?_, ?_⟩, k.id, ?_, ?_, k.cx, fun h5 => ?_⟩, k.ne⟩
  · show (b.ds.set d _).length = _
    rw [List.length_set]; exact k.hb.len
  · intro j dv1 hj h1
    have h1 : (b.fail d dv).ds[j]? = some dv1 := h1
    rw [fail_get hd] at h1
    by_cases e : j = d
    · rw [if_pos e] at h1
      cases h1
      exact k.hb.n j dv hj (by rw [e]; exact hd)
    · rw [if_neg e] at h1; exact k.hb.n j dv1 hj h1
  · obtain ⟨dv', h1, h2⟩ := k.ld
    have h1 : b.ds[h.r.g.m]? = some dv' := h1
    show ∃ dv1, (b.fail d dv).ds[h.r.g.m]? = some dv1 ∧ _
    rw [fail_get hd]
    by_cases e : h.r.g.m = d
    · rw [if_pos e]
      rw [e, hd] at h1
      cases h1
      exact ⟨_, rfl, h2⟩
    · rw [if_neg e]; exact ⟨dv', h1, h2⟩
  · cases l with
    | none => exact k.lo
    | some x => exact k.lo
  · obtain ⟨sk, B, sb⟩ := k.sk h5
    refine ⟨sk, B, sb.bx, fun n m hm hh hdd => ?_, sb.kn, sb.cl⟩
    show (b.fail d dv).rd m (2 + n) = _
    rw [fail_rd hd]
    have hdd : (b.fail d dv).dead m = false := hdd
    rw [fail_dead hd] at hdd
    by_cases e : m = d
    · rw [if_pos e] at hdd; cases hdd
    · rw [if_neg e] at hdd; exact sb.dk n m hm hh hdd
theorem OO.fail {h : Hul} {b : Ben} {s : Shf} {l : Option (Nat × Lg)} {d : Nat} {dv : Dev} (hd : b.ds[d]? = some dv) (hle : d ≤ h.r.g.m) (h0 : ∀ j, j ≤ h.r.g.m → b.dead j = false) (hl : b.ds.length = h.r.g.m + 1) (hs : ∀ j, j < 16 → h.r.st j = 0) (hg : h.r.gone = false) : OO ⟨h, b.fail d dv, s, l⟩ := by
  refine ⟨d, hle, fun j hj => ?_, fun j hj _ => hs j hj, fun _ => hg, fun e => ?_⟩
  · show (b.fail d dv).dead j = false
    rw [fail_dead hd, if_neg hj]
    by_cases e : j ≤ h.r.g.m
    · exact h0 j e
    · unfold Ben.dead; rw [List.getElem?_eq_none (by omega)]
  · have e : h.r.gone = true := e
    rw [hg] at e; cases e
theorem cnt_full {f : Nat → Nat} {k : Nat} : ∀ {n : Nat}, cnt f k n = n → ∀ j, j < n → f j = k
  | 0, _, j, hj => by omega
  | n + 1, h, j, hj => by
    have hl := cnt_le f k n
    unfold cnt at h
    by_cases e : f n = k
    · rw [if_pos e] at h
      by_cases e2 : j = n
      · rw [e2]; exact e
      · exact cnt_full (n := n) (by omega) j (by omega)
    · rw [if_neg e] at h; omega
theorem state1 {r : Ros} (ok : RosOk r) (h : r.state = 1) : (∀ j, j < 16 → r.st j = 0) ∧ r.gone = false := by
  unfold Ros.state at h
  split at h
  · cases h
  · split at h
    · cases h
    · rename_i hg
      split at h
      · cases h
      · rename_i h2
        split at h
        · cases h
        · rename_i h3 h4
          have h5 : cnt r.st 0 16 = 16 := by
            have h6 : r.missing = 16 - cnt r.st 0 16 := rfl
            have := cnt_le r.st 0 16
            omega
          exact ⟨cnt_full h5, by simpa using hg⟩
end Go.Proofs.YtnilejkfbcnkkaaGreatDoor.V
end
section
set_option maxRecDepth 100000
set_option maxHeartbeats 2000000
namespace Go.Proofs.YtnilejkfbcnkkaaGreatDoor.V
variable [GlK]
open Go Go.RowKit
attribute [local irreducible] Yields cl blk pur rowc sv exC fo cnt xorb blk0

abbrev arL (g : Geo) (gb gk gm : Nat) : List Value := [I g.m, I g.s, I g.r, PP gb, PP gk, PP gm]
abbrev arC (ga : Nat) (g : Geo) (gb gk gm : Nat) : Chunk := cl ga (arL g gb gk gm) 37
/-- all there is of an array -/
abbrev ArM (ga gk gm gv gh gb gs : Nat) (g : Geo) (V : Vlt) (L : List Blk) : Hp := arC ga g gb gk gm :: ModC gm L :: dkC gk gv PN :: VtM gv gh gb gs V
/-- a new one -/
structure New (g : Geo) (V : Vlt) : Prop where
  ai : AI g (fun _ _ => blk0) V (List.replicate g.blocks blk0)
  k : V.b.k ≤ 10000
  d : ∀ j, V.b.dead j = false
  st : ∀ j, V.h.r.st j = 0
  gn : V.h.r.gone = false
theorem New.oo {g : Geo} {V : Vlt} (n : New g V) : OO V := ⟨0, Nat.zero_le _, fun j _ => n.d j, fun j _ _ => n.st j, fun _ => n.gn, fun h => by rw [n.gn] at h; cases h⟩
theorem bnC_new {g : Geo} : BnC g ⟨(List.replicate g.m (2 + g.s) ++ [10 + g.r]).map fresh, 0⟩ := by
  have hl : ((List.replicate g.m (2 + g.s) ++ [10 + g.r]).map fresh).length = g.m + 1 := by simp
  have h0 : ∀ j, j < g.m → ((List.replicate g.m (2 + g.s) ++ [10 + g.r]).map fresh)[j]? = some (fresh (2 + g.s)) := fun j hj => by
    rw [List.getElem?_map, List.getElem?_append_left (by simpa using hj), List.getElem?_replicate, if_pos hj]; rfl
  have h1 : ((List.replicate g.m (2 + g.s) ++ [10 + g.r]).map fresh)[g.m]? = some (fresh (10 + g.r)) := by
    rw [List.getElem?_map, List.getElem?_append_right (by simp)]; simp
  refine ⟨hl, fun j dv hj h => ?_, fun dv h => ?_, fun j dv h => ?_, rfl⟩
  · have h : ((List.replicate g.m (2 + g.s) ++ [10 + g.r]).map fresh)[j]? = some dv := h
    rw [h0 j hj] at h; cases h; rfl
  · have h : ((List.replicate g.m (2 + g.s) ++ [10 + g.r]).map fresh)[g.m]? = some dv := h
    rw [h1] at h; cases h; rfl
  · have h : ((List.replicate g.m (2 + g.s) ++ [10 + g.r]).map fresh)[j]? = some dv := h
    by_cases e : j < g.m
    · rw [h0 j e] at h; cases h; rfl
    · have hj : j < g.m + 1 := by have := (List.getElem?_eq_some_iff.1 h).1; omega
      have e : j = g.m := by omega
      rw [e, h1] at h; cases h; rfl
theorem f5 {g : Geo} (hg : GeoOk g) : Ct Tryz.prog 5 [GV g] [glC] (fun v M => ∃ (ga gk gm gv gh gb gs : Nat) (V : Vlt), v = T [PP ga, .bool true] ∧ M = ArM ga gk gm gv gh gb gs g V (List.replicate g.blocks blk0) ∧ New g V) := by
  have h22 := f22 hg
  have h24 := f24 hg
  have h3 := hg.m3
  have h16 := hg.m16
  have hs := hg.s64
  have hs1 := hg.s1
  have hr := hg.r256
  refine w_ct Tryz.func5 rfl Tryz.ntmps5 rfl fun w B => ?_
  refine W1 fun g1 => ?_
  refine cl' h22 ?_
  rintro _ _ ⟨a, c, rfl, rfl⟩
  refine g_svp rfl (sel_ : Sel (sv eNat 3 _ a c) _ _) (by simp) fun gs hgs => ?_
  subst hgs
  have h21 := f21 (g := gs) (cap := c) (ns := List.replicate g.m (2 + g.s) ++ [10 + g.r]) (by simp) (by simp; omega) (fun n hn => by
    rcases List.mem_append.1 hn with h | h
    · rw [(List.mem_replicate.1 h).2]; omega
    · simp at h; omega)
  refine W ?_
  refine cl' h21 ?_
  rintro _ _ ⟨gb, rfl, rfl⟩
  have h23 := f23 (gb := gb) (id := 9) hg (by omega) (by omega) bnC_new
  refine W ?_
  refine cl' h23 ?_
  rintro _ _ ⟨gk, gv, gh, gs, V, rfl, rfl, hV, hVg, hVk, hVd, hVs, hVn⟩
  refine W ?_
  refine cl' h24 ?_
  rintro _ _ ⟨gm, rfl, rfl⟩
  refine W1 fun ga => ?_
  exact fin ⟨_, rfl, ga, gk, gm, gv, gh, gb, gs, V, rfl, rfl, ⟨hV, hVg, by simp, fun n h => by simp [Geo.cell]⟩, hVk, hVd, hVs, hVn⟩
end Go.Proofs.YtnilejkfbcnkkaaGreatDoor.V
end
section
set_option maxRecDepth 100000
set_option maxHeartbeats 2000000
namespace Go.Proofs.YtnilejkfbcnkkaaGreatDoor.V
variable [GlK]
open Go Go.RowKit
attribute [local irreducible] Yields cl blk pur rowc sv exC fo cnt xorb blk0

theorem AsQ.zero {C : Nat → Nat → Blk} {c : Nat} {V V' : Vlt} {e : Int} (q : AsQ C c V V' e) : AsQ C c V V' 0 := ⟨q.k, q.g, q.b, fun o => ⟨(q.o o).1, .inl rfl⟩⟩
section
variable {ga gk gm gv gh gb gs : Nat} {g : Geo} {C : Nat → Nat → Blk} {V : Vlt} {L : List Blk}
theorem f45 (a : AI g C V L) (o : OO V) (hk : V.b.k < 1099300000000) : Ct Tryz.prog 45 [PP ga] (ArM ga gk gm gv gh gb gs g V L) (fun v M => ∃ b : Bool, v = .bool b ∧ M = ArM ga gk gm gv gh gb gs g V L ∧ (b = true → (∀ j, j ≤ V.h.r.g.m → V.b.dead j = false) ∧ V.h.r.state = 1)) := by
  have h5 := o.ne5 a.k
  have h36 := f36 (gk := gk) (gv := gv) (gh := gh) (gb := gb) (gs := gs) a.k h5 hk
  have hge := a.ge
  have hl := a.k.hb.len
  have h16 := a.k.g.m16
  rw [hge] at h16
  rw [hge] at hl
  refine w_ct Tryz.func45 rfl Tryz.ntmps45 rfl fun w B => ?_
  refine W ?_
  refine w_loop (γ := Nat) (fun j => [(0, PP ga), (3, I j)]) (fun _ => ArM ga gk gm gv gh gb gs g V L) (fun j => j ≤ g.m + 1 ∧ ∀ i, i < j → V.b.dead i = false) (fun j => g.m + 1 - j) 0 sl_ ent_ ⟨Nat.zero_le _, fun i hi => absurd hi (Nat.not_lt_zero _)⟩ fun j B ⟨hj, hd⟩ => ?_
  refine W ?_
  refine w_if rfl (fun h => ?_) (fun h => ?_)
  · have hlt : j < V.b.ds.length := by omega
    have h14 := f14 (gb := gb) (b := V.b) (d := j) (List.getElem?_eq_getElem hlt)
    refine W ?_
    refine cv h14 ?_
    refine w_nil ?_
    cases hdd : (V.b.ds[j]).dead with
    | true =>
      refine W ?_
      exact fin ⟨_, rfl, false, rfl, rfl, fun h => by cases h⟩
    | false =>
      refine W ?_
      refine w_land rfl (w_round (j + 1) ⟨by show j + 1 ≤ g.m + 1; omega, fun i hi => ?_⟩ (by show g.m + 1 - (j + 1) < g.m + 1 - j; omega) sl_ ent_)
      by_cases e : i = j
      · subst e; rw [Ben.dead_eq (List.getElem?_eq_getElem hlt)]; exact hdd
      · exact hd i (by omega)
  · refine W ?_
    refine cl' h36 ?_
    rintro _ _ ⟨a1, a2, a3, a4, a5, a6, rfl, rfl⟩
    refine W ?_
    refine fin ⟨_, rfl, decide (((V.h.r.state : Nat) : Int) = 1), rfl, rfl, fun hb => ⟨fun j hj => hd j (by rw [hge] at hj; omega), ?_⟩⟩
    have := of_decide_eq_true hb
    omega
theorem f19 {n : Int} {lg : Bool} (a : AI g C V L) (o : OO V) (hk : V.b.k < 1099300000000) : Ct Tryz.prog 19 [PP ga, .int .i64 n, .bool lg] (ArM ga gk gm gv gh gb gs g V L) (fun v M => ∃ V' : Vlt, M = ArM ga gk gm gv gh gb gs g V' L ∧ AsQ C 0 V V' 0) := by
  have h45 := f45 (ga := ga) (gk := gk) (gm := gm) (gv := gv) (gh := gh) (gb := gb) (gs := gs) a o hk
  have hge := a.ge
  have hl := a.k.hb.len
  rw [hge] at hl
  have h16 := a.k.g.m16
  rw [hge] at h16
  obtain ⟨hi, hlt⟩ := idx_eq (n := n) (b := g.m + 1) (by omega)
  have hu := wrapv_64 n
  have hi' : wrapv .u64 n % ((g.m : Int) + 1) = ((idx n (g.m + 1) : Nat) : Int) := hi
  refine w_ct Tryz.func19 rfl Tryz.ntmps19 rfl fun w B => ?_
  refine W ?_
  rw [hi']
  refine cl' h45 ?_
  rintro _ _ ⟨b, rfl, rfl, hb⟩
  cases b with
  | false =>
    refine W ?_
    exact w_ends rfl (finN (fin ⟨_, rfl, V, rfl, AsQ.refl a.k⟩))
  | true =>
    obtain ⟨hd, hst⟩ := hb rfl
    have hds : idx n (g.m + 1) < V.b.ds.length := by omega
    have h10 := f10 (gb := gb) (b := V.b) (d := idx n (g.m + 1)) (List.getElem?_eq_getElem hds)
    have hone := state1 a.k.hb.ok hst
    have hq : AsQ C 0 V ⟨V.h, V.b.fail (idx n (g.m + 1)) V.b.ds[idx n (g.m + 1)], V.s, V.l⟩ 0 :=
      ⟨VK.fail (h := V.h) (b := V.b) (s := V.s) (l := V.l) a.k (List.getElem?_eq_getElem hds), rfl, Nat.le_refl _, fun _ => ⟨OO.fail (List.getElem?_eq_getElem hds) (by rw [hge]; omega) hd (by rw [hge]; exact hl) hone.1 hone.2, .inl rfl⟩⟩
    refine W ?_
    by_cases h1 : idx n (g.m + 1) < g.m
    · rw [decide_eq_true (show ((idx n (g.m + 1) : Nat) : Int) < (g.m : Nat) by omega)]
      refine W ?_
      refine cl' h10 ?_
      rintro _ _ ⟨rfl, rfl⟩
      refine W ?_
      exact w_ends rfl (finN (fin ⟨_, rfl, _, rfl, hq⟩))
    · rw [decide_eq_false (show ¬ ((idx n (g.m + 1) : Nat) : Int) < (g.m : Nat) by omega)]
      cases lg with
      | false =>
        refine W ?_
        exact w_ends rfl (finN (fin ⟨_, rfl, V, rfl, AsQ.refl a.k⟩))
      | true =>
        refine W ?_
        refine cl' h10 ?_
        rintro _ _ ⟨rfl, rfl⟩
        refine W ?_
        exact w_ends rfl (finN (fin ⟨_, rfl, _, rfl, hq⟩))
theorem f33 (a : AI g C V L) (hk : V.b.k < 1099100000000) : Ct Tryz.prog 33 [PP ga] (ArM ga gk gm gv gh gb gs g V L) (fun v M => ∃ (V' : Vlt) (e : Int), v = .int .i64 e ∧ M = ArM ga gk gm gv gh gb gs g V' L ∧ AsQ C 1000000 V V' e) := by
  have hge := a.ge
  have h16 := a.k.g.m16
  rw [hge] at h16
  refine w_ct Tryz.func33 rfl Tryz.ntmps33 rfl fun w B => ?_
  refine W ?_
  refine w_loop (γ := Nat × Vlt) (fun ⟨j, V1⟩ => [(0, PP ga), (3, I j)]) (fun ⟨j, V1⟩ => ArM ga gk gm gv gh gb gs g V1 L) (fun ⟨j, V1⟩ => j ≤ g.m ∧ AsQ C (10000 * j) V V1 0) (fun x => g.m - x.1) (0, V) sl_ ent_ ⟨Nat.zero_le _, AsQ.refl a.k⟩ fun ⟨j, V1⟩ B ⟨hj, hq⟩ => ?_
  dsimp only at hj hq ⊢
  have hb := hq.b
  refine W ?_
  refine w_if rfl (fun h => ?_) (fun h => ?_)
  · have hjm : j < V1.h.r.g.m := by rw [hq.g, hge]; omega
    have h61 := f61 (gk := gk) (gv := gv) (gh := gh) (gb := gb) (gs := gs) (t := PN) (j := j) hq.k hjm (by omega)
    refine W ?_
    refine cl' h61 ?_
    rintro v _ ⟨V2, rfl, hsp⟩
    have hv : ∃ e : Int, v = .int .i64 e := by rcases hsp with ⟨h, _⟩ | ⟨h, _⟩ | ⟨h, _⟩ <;> exact ⟨_, h⟩
    obtain ⟨e, rfl⟩ := hv
    have hs := SpQ.asq hq.k hjm hsp
    refine W ?_
    by_cases he : e = 17
    · rw [decide_eq_false (show ¬ e ≠ 17 by omega)]
      refine W ?_
      exact w_land rfl (w_round (j + 1, V2) ⟨by show j + 1 ≤ g.m; omega, ((hq.then hs).zero.mono (by show 10000 * j + 10000 ≤ 10000 * (j + 1); omega))⟩ (by show g.m - (j + 1) < g.m - j; omega) sl_ ent_)
    · rw [decide_eq_true (show e ≠ 17 from he)]
      refine W ?_
      exact fin ⟨_, rfl, V2, e, rfl, rfl, (hq.then hs).mono (by omega)⟩
  · have h62 := f62 (gk := gk) (gv := gv) (gh := gh) (gb := gb) (gs := gs) (t := PN) hq.k (by omega)
    refine W ?_
    refine cl' h62 ?_
    rintro v _ ⟨V2, rfl, hsp⟩
    have hv : ∃ e : Int, v = .int .i64 e := by rcases hsp with ⟨h, _⟩ | ⟨h, _⟩ | ⟨h, _⟩ <;> exact ⟨_, h⟩
    obtain ⟨e, rfl⟩ := hv
    refine W ?_
    exact fin ⟨_, rfl, V2, e, rfl, rfl, (hq.then (AlQ.asq hq.k hsp)).mono (by omega)⟩
theorem f11 {x n ar : Int} {s1 s2 : Value} (a : AI g C V L) (hk : V.b.k < 1099000000000) : Ct Tryz.prog 11 [PP ga, A [.int .i64 x, .int .i64 n, s1, .int .i64 ar, s2]] (ArM ga gk gm gv gh gb gs g V L) (fun v M => ∃ (V' : Vlt) (e : Int), v = .int .i64 e ∧ M = ArM ga gk gm gv gh gb gs g V' L ∧ AsQ C 40000000 V V' e) := by
  have hge := a.ge
  have hs1 := a.k.g.s1
  have hs64 := a.k.g.s64
  rw [hge] at hs1 hs64
  obtain ⟨hi, hlt⟩ := idx_eq (n := n) (b := g.s) (by omega)
  have hn : idx n g.s < V.h.r.g.s := by rw [hge]; exact hlt
  have hu := wrapv_64 n
  have h28 := f28 (gk := gk) (gv := gv) (gh := gh) (gb := gb) (gs := gs) (t := PN) a.k (by omega)
  have h29 := f29 (gk := gk) (gv := gv) (gh := gh) (gb := gb) (gs := gs) (t := PN) a.k hn (by omega)
  have h30 := f30 (gk := gk) (gv := gv) (gh := gh) (gb := gb) (gs := gs) (t := PN) a.k (by omega)
  have h31 := f31 (gk := gk) (gv := gv) (gh := gh) (gb := gb) (gs := gs) (t := PN) a.k hn (by omega)
  have h32 := f32 (gk := gk) (gv := gv) (gh := gh) (gb := gb) (gs := gs) (t := PN) a.k (by omega)
  have h33 := f33 (ga := ga) (gk := gk) (gm := gm) (gv := gv) (gh := gh) (gb := gb) (gs := gs) a (by omega)
  have h34 := f34 (gk := gk) (gv := gv) (gh := gh) (gb := gb) (gs := gs) (t := PN) a.k hn (by omega)
  refine w_ct Tryz.func11 rfl Tryz.ntmps11 rfl fun w B => ?_
  refine W1 fun g1 => ?_
  rw [hi]
  refine W ?_
  refine w_if rfl (fun h => ?_) (fun h => ?_)
  · refine W ?_
    refine cl' h28 ?_
    rintro v _ ⟨V2, rfl, hq⟩
    have hv : ∃ e : Int, v = .int .i64 e := by rcases hq.2 with ⟨h, _⟩ | ⟨h, _⟩ <;> exact ⟨_, h⟩
    obtain ⟨e, rfl⟩ := hv
    refine W ?_
    exact fin ⟨_, rfl, V2, e, rfl, rfl, hq.asq.mono (by omega)⟩
  refine W ?_
  refine w_if rfl (fun h => ?_) (fun h => ?_)
  · refine W ?_
    refine cl' h29 ?_
    rintro v _ ⟨V2, rfl, hq⟩
    have hv : ∃ e : Int, v = .int .i64 e := by rcases hq.2 with ⟨h, _⟩ | ⟨h, _⟩ <;> exact ⟨_, h⟩
    obtain ⟨e, rfl⟩ := hv
    refine W ?_
    exact fin ⟨_, rfl, V2, e, rfl, rfl, hq.asq.mono (by omega)⟩
  refine W ?_
  refine w_if rfl (fun h => ?_) (fun h => ?_)
  · refine W ?_
    refine cl' h30 ?_
    rintro v _ ⟨V2, rfl, hq⟩
    have hv : ∃ e : Int, v = .int .i64 e := by rcases hq.2 with ⟨h, _⟩ | ⟨h, _⟩ <;> exact ⟨_, h⟩
    obtain ⟨e, rfl⟩ := hv
    refine W ?_
    exact fin ⟨_, rfl, V2, e, rfl, rfl, hq.asq.mono (by omega)⟩
  refine W ?_
  refine w_if rfl (fun h => ?_) (fun h => ?_)
  · refine W ?_
    refine cl' h31 ?_
    rintro v _ ⟨V2, rfl, ww, e, rfl, h1, h2, h3⟩
    refine W ?_
    exact fin ⟨_, rfl, V2, e, rfl, rfl, (RepQ.asq h1 h2 h3).mono (by omega)⟩
  refine W ?_
  refine w_if rfl (fun h => ?_) (fun h => ?_)
  · refine W ?_
    refine cl' h32 ?_
    rintro v _ ⟨V2, rfl, ww, e, rfl, h1, h2⟩
    refine W ?_
    exact fin ⟨_, rfl, V2, e, rfl, rfl, (StpQ.asq (w := ww) h1 h2).mono (by omega)⟩
  refine W ?_
  by_cases h9 : x = 9 ∨ x = 10
  · rcases h9 with h9 | h9
    · rw [decide_eq_true h9]
      refine W ?_
      refine cl' h33 ?_
      rintro _ _ ⟨V2, e, rfl, rfl, hq⟩
      refine W ?_
      exact fin ⟨_, rfl, V2, e, rfl, rfl, hq.mono (by omega)⟩
    · rw [decide_eq_false (show ¬ x = 9 by omega)]
      refine W ?_
      rw [decide_eq_true h9]
      refine W ?_
      refine cl' h33 ?_
      rintro _ _ ⟨V2, e, rfl, rfl, hq⟩
      refine W ?_
      exact fin ⟨_, rfl, V2, e, rfl, rfl, hq.mono (by omega)⟩
  · rw [decide_eq_false (show ¬ x = 9 by omega)]
    refine W ?_
    rw [decide_eq_false (show ¬ x = 10 by omega)]
    refine W ?_
    refine w_if rfl (fun h => ?_) (fun h => ?_)
    · refine W ?_
      refine cl' h34 ?_
      rintro v _ ⟨V2, rfl, ww, e, rfl, h1, h2, h3⟩
      refine W ?_
      exact fin ⟨_, rfl, V2, e, rfl, rfl, (RepQ.asq h1 h2 h3).mono (by omega)⟩
    · refine W ?_
      exact fin ⟨_, rfl, V, 0, rfl, rfl, AsQ.refl a.k⟩
end
end Go.Proofs.YtnilejkfbcnkkaaGreatDoor.V
end
section
set_option maxRecDepth 100000
set_option maxHeartbeats 2000000
namespace Go.Proofs.YtnilejkfbcnkkaaGreatDoor.V
variable [GlK]
open Go Go.RowKit
attribute [local irreducible] Yields cl blk pur rowc sv exC fo cnt xorb blk0

section
variable {ga gk gm gv gh gb gs : Nat} {g : Geo} {C : Nat → Nat → Blk} {V : Vlt} {L : List Blk}
theorem AI.asq {c : Nat} {V' : Vlt} {e : Int} (a : AI g C V L) (q : AsQ C c V V' e) : AI g C V' L := a.vk q.k q.g
theorem f20 (a : AI g C V L) (o : OO V) (hk : V.b.k < 1099200000000) : Ct Tryz.prog 20 [PP ga] (ArM ga gk gm gv gh gb gs g V L) (fun v M => ∃ V' : Vlt, v = .bool true ∧ M = ArM ga gk gm gv gh gb gs g V' L ∧ AsQ C 2000000 V V' 0 ∧ MV V V') := by
  have hb := blk_lt a.k.g
  rw [a.ge] at hb
  have hlen := a.len
  refine w_ct Tryz.func20 rfl Tryz.ntmps20 rfl fun w B => ?_
  refine W ?_
  refine w_loop (γ := Nat × Vlt) (fun ⟨j, V1⟩ => [(0, PP ga), (3, I j)]) (fun ⟨j, V1⟩ => ArM ga gk gm gv gh gb gs g V1 L) (fun ⟨j, V1⟩ => j ≤ L.length ∧ AsQ C (1200 * j) V V1 0 ∧ MV V V1) (fun x => L.length - x.1) (0, V) sl_ ent_ ⟨Nat.zero_le _, AsQ.refl a.k, MV.refl⟩ fun ⟨j, V1⟩ B ⟨hj, hq, hm⟩ => ?_
  dsimp only at hj hq hm ⊢
  have hqb := hq.b
  refine g_ex rfl (Sel.tl Sel.hd) fun ⟨gl, gc⟩ => ?_
  dsimp only
  refine W ?_
  refine w_if rfl (fun h => ?_) (fun h => ?_)
  · have hjl : j < L.length := by omega
    have hjm : j < V1.h.r.g.blocks := by rw [hq.g, a.ge, ← a.len]; exact hjl
    have h17 := f17 (gk := gk) (gv := gv) (gh := gh) (gb := gb) (gs := gs) (n := j) hq.k hjm (by omega)
    refine W ?_
    refine cl' h17 ?_
    rintro _ _ ⟨V2, rfl, hv, (⟨rfl, h5⟩ | ⟨rfl, h5⟩)⟩
    · have hcell : V1.h.r.g.cell C j = L[j] := by rw [hq.g, a.ge]; exact a.eq j hjl
      rw [hcell]
      have hs : AsQ C 1200 V1 V2 0 := hv.asq (.inl rfl)
      refine W1 fun g4 => ?_
      refine w_qy rfl rfl (y_neqV (p := L[j]) (q := L[j]) (by constructor <;> rfl) rfl rfl) ?_
      rw [decide_eq_false (show ¬ (L[j] ≠ L[j]) from fun h => h rfl)]
      refine W ?_
      refine w_land rfl (w_round (j + 1, V2) ⟨by show j + 1 ≤ _; omega, (hq.then hs).mono (by show 1200 * j + 1200 ≤ 1200 * (j + 1); omega), hm.trans hv.mv⟩ (by show L.length - (j + 1) < L.length - j; omega) sl_ ?_)
      exact Ent.trans (Ent.sel sel_ ent_) (Ent.cons _ (ent_ex (gl, gc) ent_))
    · exact absurd h5 ((hq.o o).1.mv hv.mv |>.ne5 hv.ok)
  · refine W ?_
    exact finE ⟨_, rfl, V1, rfl, rfl, hq.mono (by omega), hm⟩ (Ent.sel sel_ (ent_ex (gl, gc) ent_))
theorem f12 (a : AI g C V L) (hk : V.b.k < 1099200000000) : Ct Tryz.prog 12 [PP ga] (ArM ga gk gm gv gh gb gs g V L) (fun v M => ∃ V' : Vlt, v = .bool true ∧ M = ArM ga gk gm gv gh gb gs g V' L ∧ AsQ C 2000000 V V' 0) := by
  have hb := blk_lt a.k.g
  rw [a.ge] at hb
  have hlen := a.len
  refine w_ct Tryz.func12 rfl Tryz.ntmps12 rfl fun w B => ?_
  refine W ?_
  refine w_loop (γ := Nat × Vlt) (fun ⟨j, V1⟩ => [(0, PP ga), (3, I j)]) (fun ⟨j, V1⟩ => ArM ga gk gm gv gh gb gs g V1 L) (fun ⟨j, V1⟩ => j ≤ L.length ∧ AsQ C (1200 * j) V V1 0) (fun x => L.length - x.1) (0, V) sl_ ent_ ⟨Nat.zero_le _, AsQ.refl a.k⟩ fun ⟨j, V1⟩ B ⟨hj, hq⟩ => ?_
  dsimp only at hj hq ⊢
  have hqb := hq.b
  refine g_ex rfl (Sel.tl Sel.hd) fun ⟨gl, gc⟩ => ?_
  dsimp only
  refine W ?_
  refine w_if rfl (fun h => ?_) (fun h => ?_)
  · have hjl : j < L.length := by omega
    have hjm : j < V1.h.r.g.blocks := by rw [hq.g, a.ge, ← a.len]; exact hjl
    have h17 := f17 (gk := gk) (gv := gv) (gh := gh) (gb := gb) (gs := gs) (n := j) hq.k hjm (by omega)
    refine W ?_
    refine cl' h17 ?_
    rintro _ _ ⟨V2, rfl, hv, (⟨rfl, h5⟩ | ⟨rfl, h5⟩)⟩
    · have hcell : V1.h.r.g.cell C j = L[j] := by rw [hq.g, a.ge]; exact a.eq j hjl
      rw [hcell]
      have hs : AsQ C 1200 V1 V2 0 := hv.asq (.inl rfl)
      refine W1 fun g4 => ?_
      refine w_qy rfl rfl (y_neqV (p := L[j]) (q := L[j]) (by constructor <;> rfl) rfl rfl) ?_
      rw [decide_eq_false (show ¬ (L[j] ≠ L[j]) from fun h => h rfl)]
      refine W ?_
      refine w_land rfl (w_round (j + 1, V2) ⟨by show j + 1 ≤ _; omega, (hq.then hs).mono (by show 1200 * j + 1200 ≤ 1200 * (j + 1); omega)⟩ (by show L.length - (j + 1) < L.length - j; omega) sl_ ?_)
      exact Ent.trans (Ent.sel sel_ ent_) (Ent.cons _ (ent_ex (gl, gc) ent_))
    · have hs : AsQ C 1200 V1 V2 0 := hv.asq (.inl rfl)
      refine W1 fun g4 => ?_
      refine w_qy rfl rfl (y_neqV (p := blk0) (q := blk0) (by constructor <;> rfl) rfl rfl) ?_
      rw [decide_eq_false (show ¬ (blk0 ≠ blk0) from fun h => h rfl)]
      refine W ?_
      refine w_land rfl (w_round (j + 1, V2) ⟨by show j + 1 ≤ _; omega, (hq.then hs).mono (by show 1200 * j + 1200 ≤ 1200 * (j + 1); omega)⟩ (by show L.length - (j + 1) < L.length - j; omega) sl_ ?_)
      exact Ent.trans (Ent.sel sel_ ent_) (Ent.cons _ (ent_ex (gl, gc) ent_))
  · refine W ?_
    exact finE ⟨_, rfl, V1, rfl, rfl, hq.mono (by omega)⟩ (Ent.sel sel_ (ent_ex (gl, gc) ent_))
theorem state_new {r : Ros} (ok : RosOk r) (h : ∀ j, j < 16 → r.st j = 0) (hg : r.gone = false) : r.state = 1 := by
  have h3 : 16 ≤ cnt r.st 0 16 + (if 16 < 16 then 1 else 0) := cnt_lo (f := r.st) (d := 16) (n := 16) fun j hj _ => h j hj
  rw [if_neg (Nat.lt_irrefl _)] at h3
  have hm : r.missing = 0 := by show 16 - cnt r.st 0 16 = 0; omega
  have h2 : cnt r.st 2 16 = 0 := cnt_no fun j hj => by rw [h j hj]; decide
  unfold Ros.state
  rw [hm, hg, h2]
  rfl
theorem state4 {r : Ros} (h : r.state = 4) : r.gone = true := by
  unfold Ros.state at h
  split at h
  · cases h
  · split at h
    · assumption
    · split at h
      · cases h
      · split at h <;> cases h
theorem f13 : Ct Tryz.prog 13 [] [glC] (fun v M => v = .bool true ∧ M = [glC]) := by
  have hg : GeoOk ⟨3, 4, 40⟩ := ⟨by decide, by decide, by decide, by decide, by decide, by decide⟩
  have h5 := f5 hg
  refine w_ct Tryz.func13 rfl Tryz.ntmps13 rfl fun w B => ?_
  refine W ?_
  refine cl' h5 ?_
  rintro _ _ ⟨ga, gk, gm, gv, gh, gb, gs, V, rfl, rfl, hn⟩
  have a := hn.ai
  have hk := hn.k
  have hbl : V.h.r.g.blocks = 8 := by rw [a.ge]; rfl
  have h35 := f35 (gk := gk) (gv := gv) (gh := gh) (gb := gb) (gs := gs) (t := PN) a.k.g
  rw [hbl] at h35
  have h20 := f20 (ga := ga) (gk := gk) (gm := gm) (gv := gv) (gh := gh) (gb := gb) (gs := gs) a hn.oo (by omega)
  refine W ?_
  refine cv h35 ?_
  refine W ?_
  refine cl' h20 ?_
  rintro _ _ ⟨V1, rfl, rfl, hq, hm⟩
  have hqb := hq.b
  have hs1 : V1.h.r.state = 1 := state_new hq.k.hb.ok (fun j hj => by
    rcases hm.st j with e | ⟨_, e, _⟩
    · rw [e]; exact hn.st j
    · rw [hn.d j] at e; cases e) (by
    rcases hm.gone with e | ⟨_, e⟩
    · rw [e]; exact hn.gn
    · rw [hn.d] at e; cases e)
  have h36 := f36 (gk := gk) (gv := gv) (gh := gh) (gb := gb) (gs := gs) hq.k (by rw [hs1]; decide) (by omega)
  rw [hs1] at h36
  refine W ?_
  refine cl' h36 ?_
  rintro _ _ ⟨a1, a2, a3, a4, a5, a6, rfl, rfl⟩
  refine W ?_
  exact fin ⟨_, rfl, rfl, rfl⟩
/-- what a commit comes to -/
def CoQ (g : Geo) (C : Nat → Nat → Blk) (L : List Blk) (ws : List (Nat × Blk)) (V V' : Vlt) (e : Int) : Prop :=
  V'.b.k ≤ V.b.k + 90000000 ∧ (OO V → OO V') ∧ ((e = 0 ∧ ∃ C', AI g C' V' (putM ws L)) ∨ (e ≠ 0 ∧ AI g C V' L ∧ (OO V → e = 13 ∧ V'.h.r.gone = true)))
theorem f8 {ws : List (Nat × Blk)} {sa : Option Addr} {sc : Nat} (a : AI g C V L) (hk : V.b.k < 1099000000000) (hwl : ws.length ≤ 16) (hw : ∀ w ∈ ws, w.1 < L.length) :
    Ct Tryz.prog 8 [PP ga, .slice sa ws.length sc] (ArM ga gk gm gv gh gb gs g V L ++ [sv eWt 53 ws sa sc]) (fun v M => ∃ (V' : Vlt) (e : Int), v = .int .i64 e ∧ M = ArM ga gk gm gv gh gb gs g V' L ++ [sv eWt 53 ws sa sc] ∧ CoQ g C L ws V V' e) := by
  have hge := a.ge
  have hlen := a.len
  have h15 := f15 (gk := gk) (gv := gv) (gh := gh) (gb := gb) (gs := gs) a.k
  refine w_ct Tryz.func8 rfl Tryz.ntmps8 rfl fun w B => ?_
  refine W ?_
  refine cl' h15 ?_
  rintro _ _ (⟨h5, rfl, rfl⟩ | ⟨h4, rfl, rfl⟩ | ⟨h5, h4, rfl, gd, rfl⟩)
  · refine W ?_
    exact fin ⟨_, rfl, V, 16, rfl, rfl, by omega, fun o => o, .inr ⟨by decide, a, fun o => absurd h5 (o.ne5 a.k)⟩⟩
  · refine W ?_
    exact fin ⟨_, rfl, V, 13, rfl, rfl, by omega, fun o => o, .inr ⟨by decide, a, fun o => ⟨rfl, state4 h4⟩⟩⟩
  · refine W ?_
    refine w_loop (γ := Nat) (fun j => [(0, PP ga), (1, .slice sa ws.length sc), (6, I j)]) (fun j => arC ga g gb gk gm :: ModC gm L :: dkC gk gv (PP gd) :: VtM gv gh gb gs V ++ [DrC gd g (dft (ws.take j) []), sv eWt 53 ws sa sc]) (fun j => j ≤ ws.length) (fun j => ws.length - j) 0 sl_ (by rw [← hge]; exact ent_) (Nat.zero_le _) fun j B hj => ?_
    have hdl : (dft (ws.take j) []).length ≤ j := by
      have := dft_len (ws := ws.take j) (m := [])
      have h1 : (ws.take j).length ≤ j := by rw [List.length_take]; omega
      have h2 : ([] : List (Nat × Blk)).length = 0 := rfl
      omega
    refine W ?_
    refine w_if rfl (fun h => ?_) (fun h => ?_)
    · have hlt : j < ws.length := by omega
      have hin := hw ws[j] (List.getElem_mem hlt)
      have h16 := f16 (gk := gk) (gv := gv) (gd := gd) (m := dft (ws.take j) []) (n := ws[j].1) (x := ws[j].2) (g := g) (by rw [← hge]; exact a.k.g) (by rw [← hlen]; exact hin) (by omega) (.inr (by omega))
      have e1 : putL (dft (ws.take j) []) ws[j].1 ws[j].2 = dft (ws.take (j + 1)) [] := by rw [List.take_succ_eq_append_getElem hlt, dft_app]; rfl
      rw [e1] at h16
      refine w_skip ?_
      refine g_svp rfl (sel_ : Sel (sv eWt 53 ws sa sc) _ _) (by omega) fun gs' hgs => ?_
      subst hgs
      refine W ?_
      refine cl' h16 ?_
      rintro _ _ ⟨rfl, rfl⟩
      refine W ?_
      refine w_land rfl (w_round (j + 1) (by show j + 1 ≤ ws.length; omega) (by show ws.length - (j + 1) < ws.length - j; omega) sl_ ?_)
      show Ent _ [arC ga g gb gk gm, ModC gm L, dkC gk gv (PP gd), vtC gv gh gb gs (lgV V.l), huC gh gb V.h, BenC gb V.b, ShC gs V.h.r.g V.s, lgO gb V.l, glC, DrC gd g (dft (ws.take (j + 1)) []), sv eWt 53 ws (some ⟨gs', 0, none⟩) sc]
      iterate 10 refine Ent.sel sel_ ?_
      exact ent_sv ent_
    · obtain rfl : j = ws.length := by omega
      rw [List.take_length] at hdl ⊢
      have h25 := f25 (gk := gk) (gv := gv) (gh := gh) (gb := gb) (gs := gs) (gd := gd) (m := dft ws []) a.k hge hk (by omega) (dft_in (fun w h => by rw [← hlen]; exact hw w h) (fun p hp => by cases hp))
      refine W ?_
      refine cl' h25 ?_
      rintro v _ ⟨V1, rfl, hq⟩
      rcases hq with ⟨rfl, h5', C', hv, hc⟩ | ⟨hv, (⟨rfl, h5'⟩ | ⟨rfl, hl⟩)⟩
      · refine W ?_
        exact fin ⟨_, rfl, V1, 0, rfl, rfl, hv.k, fun o => o.mv hv.mv, .inl ⟨rfl, C', a.put hv.ok hv.mv.g (fun b hb => by rw [← hge]; rw [← hge] at hb; rw [hc b hb, wrs_dft])⟩⟩
      · refine W ?_
        exact fin ⟨_, rfl, V1, 16, rfl, rfl, hv.k, fun o => o.mv hv.mv, .inr ⟨by decide, a.vk hv.ok hv.mv.g, fun o => absurd h5' ((o.mv hv.mv).ne5 hv.ok)⟩⟩
      · refine W ?_
        have hgone : V1.h.r.gone = true := by have := hv.ok.lo; rw [hl] at this; exact this
        exact fin ⟨_, rfl, V1, 13, rfl, rfl, hv.k, fun o => o.mv hv.mv, .inr ⟨by decide, a.vk hv.ok hv.mv.g, fun o => ⟨rfl, hgone⟩⟩⟩
end
end Go.Proofs.YtnilejkfbcnkkaaGreatDoor.V
end
