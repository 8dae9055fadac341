/- Proved: what a stripe's writing comes to; rules on many objects that are told as one; writes by their stripes, in plain; writes by their stripes; the conditions stand in the statements. -/
import Derived.Test.YtnilejkfbcnkkaaGreatDoorM21
set_option linter.unusedVariables false
set_option linter.unusedSimpArgs false
set_option linter.unusedSectionVars false
section
set_option maxRecDepth 100000
set_option maxHeartbeats 2000000
namespace Go.Proofs.YtnilejkfbcnkkaaGreatDoor.V
variable [GlK]
open Go Go.RowKit
attribute [local irreducible] Yields cl blk pur rowc sv exC fo cnt xorb blk0

section
variable {P : Program} {w0 : World} {S : Nat → Prop} {R : Regs} {H : Hp}
variable {dst : Option Tmp} {ty : TypeId} {pos : String} {after : Array Go.Edge} {gd : Option (Nat × Bool)}
theorem y_sl0 {x q : Operand} {t e : TypeId} {len cap sz g h : Nat} {k : IntKind} [hu : UT P t (.slice e)] [hs : SZ P e sz] (hx : ev R x = SL g len cap) (hq : ev R q = .int k (h : Int)) (hc : h ≤ cap) (h0 : 0 < cap) :
    Yields P w0 S H ⟨dst, .slice t x none (some q) none, ty, pos, after, gd⟩ R (SL g h cap) := by
  have := y_slice (P := P) (w0 := w0) (S := S) (H := H) (dst := dst) (ty := ty) (pos := pos) (after := after) (gd := gd) (lo := none) (hi := some q) (l := 0) (h := h) hx hu.h hs.h rfl ⟨k, hq⟩ (Nat.zero_le _) hc
  rw [if_neg (by omega), Nat.sub_zero, Nat.sub_zero, Nat.zero_mul] at this
  exact this
end
theorem read_dr {g : Geo} {s s' : Shf} {h h' : Hul} {b b' : Ben} {n m : Nat} {v : Value} {l : Option (Nat × Lg)} (q : ShRdQ s h b n m s' h' b' v) (hg : h.r.g = g) (hp : ShP g s) (sk : SK g s l) (j i : Nat) (hi : i < g.m) : (s'.F j).dr i = (s.F j).dr i := by
  subst hg
  have key : ∀ t, TchR h.r.g s n t → (t.F j).dr i = (s.F j).dr i := by
    intro t ht
    rcases ht.line hp sk j with e | ⟨e, e2⟩
    · rw [e]
    · rw [e, drt_no e2 (by rw [hp.lm]; exact hi)]; rfl
  rcases q with ⟨_, _, _, _, (ht | rfl)⟩ | ⟨_, _, (⟨x, _, (⟨t, ht, rfl⟩ | rfl)⟩ | ⟨_, rfl⟩)⟩
  · exact key _ ht
  · rfl
  · show (fset t.F n ((t.F n).learn m x) j).dr i = _
    by_cases c : j = n
    · subst c; rw [fset_eq, learn_dr.1]; exact key _ ht
    · rw [fset_ne c]; exact key _ ht
  · rfl
  · rfl
theorem cnt_mlt {f g : Nat → Nat} {k : Nat} : ∀ {n : Nat}, (∀ j, j < n → f j = k → g j = k) → (∃ j, j < n ∧ g j = k ∧ f j ≠ k) → cnt f k n < cnt g k n
  | 0, _, ⟨j, h, _⟩ => by omega
  | n + 1, h, ⟨j, hj, h1, h2⟩ => by
    by_cases e : j = n
    · subst e
      have := cnt_mle (f := f) (g := g) (k := k) (n := j) fun i hi => h i (by omega)
      unfold cnt
      simp only [h1, h2, if_true, if_false]
      omega
    · have ih := cnt_mlt (n := n) (fun i hi => h i (by omega)) ⟨j, by omega, h1, h2⟩
      have := h n (by omega)
      unfold cnt
      by_cases e2 : f n = k
      · simp only [e2, this e2, if_true]; omega
      · simp only [e2, if_false]; split <;> omega
theorem cnt_top {f : Nat → Nat} {k : Nat} : ∀ {n : Nat}, cnt f k n ≤ n
  | 0 => by unfold cnt; exact Nat.le_refl _
  | n + 1 => by
    have := cnt_top (f := f) (k := k) (n := n)
    unfold cnt
    split <;> omega
/-- where a roster turned, a member more is lost -/
theorem re_cnt {D : Nat → Bool} {r r' : Ros} (h : RE D r r') (hr : RosOk r) (hne : ¬ r'.same r) : cnt r.st 1 16 < cnt r'.st 1 16 := by
  have hall : ∀ j, j < 16 → r.st j = 1 → r'.st j = 1 := by
    intro j hj e
    rcases h.st j with f | ⟨_, _, f⟩
    · exact f.trans e
    · exact f
  refine Decidable.byContradiction fun hc => hne ?_
  have hst : ∀ j, j < 16 → r'.st j = r.st j := by
    intro j hj
    rcases h.st j with f | ⟨_, _, f⟩
    · exact f
    · by_cases e : r.st j = 1
      · rw [f, e]
      · exact absurd (cnt_mlt hall ⟨j, hj, f, e⟩) hc
  refine ⟨by rw [h.g], by rw [h.g], by rw [h.g], hst, ?_, h.gone⟩
  rcases h.cur with e | ⟨e1, e2⟩
  · exact e
  · rcases hr.one with f | ⟨_, f⟩
    · have : ∀ {n : Nat}, n ≤ 16 → cnt r.st 2 n = 0 := by
        intro n
        induction n with
        | zero => intro _; unfold cnt; rfl
        | succ n ih =>
          intro hn
          unfold cnt
          rw [ih (by omega), if_neg (by rw [← hst n (by omega)]; exact e2 n (by omega))]
      rw [this (Nat.le_refl _)] at f; cases f
    · rw [e1, f]
theorem same_has {r r' : Ros} (h : r'.same r) {m n : Nat} (hm : m < 16) : r'.has m n = r.has m n := by
  obtain ⟨_, _, _, h1, h2, _⟩ := h
  unfold Ros.has
  rw [h1 m hm, h2]
/-- a stripe's cells, as they are to be written -/
def CelR (C : Nat → Nat → Blk) (g : Geo) (n : Nat) (wr : List Bool) (now : List Blk) (r : Ros) (cs : List Cel) : Prop :=
  (cs = datC g n wr now (g.m - 1) ∧ r.has (g.par n) n = false) ∨ cs = datC g n wr now (g.m - 1) ++ [⟨n, g.par n, nwP C g n wr now⟩]
theorem datC_succ {g : Geo} {n k : Nat} {wr : List Bool} {now : List Blk} : datC g n wr now (k + 1) = datC g n wr now k ++ if wr.getD k false then [⟨n, g.dat n k, now.getD k blk0⟩] else [] := by
  unfold datC
  rw [List.range_succ, List.filter_append, List.map_append]
  congr 1
  cases h : wr.getD k false <;> simp only [List.filter_cons, List.filter_nil, h] <;> rfl
theorem datC_len {g : Geo} {n k : Nat} {wr : List Bool} {now : List Blk} : (datC g n wr now k).length ≤ k := by
  unfold datC
  rw [List.length_map]
  have := List.length_filter_le (fun i => wr.getD i false) (List.range k)
  rwa [List.length_range] at this
section
variable {gv gh gb gs : Nat} {C : Nat → Nat → Blk} {V : Vlt} {n ad aw an : Nat} {wr : List Bool} {now : List Blk}
abbrev rwsC (g : Geo) (n ad aw an : Nat) (wr : List Bool) (now : List Blk) : Hp := [rowc eNat 3 (datL g n) ad (g.m - 1), rowc eBool 4 wr aw (g.m - 1), rowc eBlk 51 now an (g.m - 1)]
theorem VK.shelfc {C : Nat → Nat → Blk} {c : Nat} {h h' : Hul} {b b' : Ben} {s s' : Shf} {l : Option (Nat × Lg)} (k : VK C ⟨h, b, s, l⟩) (o : HS c h b h' b') (sk : h'.r.state ≠ 5 → SK h'.r.g s' l ∧ ∃ B, SB C B h' b' s') (hdr : ∀ j, (s'.F j).drt = (s.F j).drt) : VS C C c ⟨h, b, s, l⟩ ⟨h', b', s', l⟩ :=
  ⟨o.mo.mv o.id, o.be.k2, ⟨k.hb.st o, by show 0 < h'.id; rw [o.id]; exact k.id, ld_be o.be o.re.g k.ld, k.lo.up o.re.g o.re.gone o.be.k1, by show CX C h'.r.g; rw [o.re.g]; exact k.cx, sk⟩, fun hl h5 j => (hdr j).trans (k.ne hl (fun e => h5 (o.mo.state5 e)) j)⟩
abbrev VtG (g : Geo) (gv gh gb gs : Nat) (V : Vlt) : Hp := [vtC gv gh gb gs (lgV V.l), huC gh gb V.h, BenC gb V.b, ShC gs g V.s, lgO gb V.l, glC]
theorem f96 (k : VK C V) (h5 : V.h.r.state ≠ 5) (hk : V.b.k < 1099300000000) (hn : n < V.h.r.g.s) (hwr : wr.length = V.h.r.g.m - 1) (hnow : now.length = V.h.r.g.m - 1) (hc : 0 < wr.count true) :
    CtP Tryz.prog 96 [PP gv, A (stqL V.h.r.g n ad aw an)] (VtM gv gh gb gs V ++ rwsC V.h.r.g n ad aw an wr now) (fun o L => ∃ V' : Vlt, VS C C 600000 V V' ∧ V'.l = V.l ∧
      ((V'.h.r.state ≠ 5 ∧ ∃ (cs : List Cel) (a : Option Addr) (c : Nat), o = .ret (.slice a cs.length c) ∧ L = VtM gv gh gb gs V' ++ rwsC V.h.r.g n ad aw an wr now ++ [sv eCel 163 cs a c] ∧ CelR C V.h.r.g n wr now V'.h.r cs) ∨
       (o = .pan (fltV 16) ∧ V'.h.r.state = 5 ∧ L = VtM gv gh gb gs V' ++ rwsC V.h.r.g n ad aw an wr now))) := by
  have hg := k.g
  have hm3 := hg.m3
  have hm16 := hg.m16
  refine w_ct Tryz.func96 rfl Tryz.ntmps96 rfl fun w B => ?_
  refine W1 fun g3 => ?_
  refine g_nil eCel 163 rfl ?_
  refine w_loop (γ := Nat × Option Addr × Nat) (fun ⟨j, a, c⟩ => [(0, PP gv), (3, PP g3), (5, .slice a (datC V.h.r.g n wr now j).length c), (18, SL aw (V.h.r.g.m - 1) (V.h.r.g.m - 1)), (19, I (V.h.r.g.m - 1)), (20, I j)])
    (fun ⟨j, a, c⟩ => VtM gv gh gb gs V ++ rwsC V.h.r.g n ad aw an wr now ++ [cl g3 (stqL V.h.r.g n ad aw an) 147, sv eCel 163 (datC V.h.r.g n wr now j) a c]) (fun ⟨j, a, c⟩ => j ≤ V.h.r.g.m - 1) (fun x => V.h.r.g.m - 1 - x.1) (0, none, 0) sl_ ent_
    (Nat.zero_le _) fun ⟨j, a, c⟩ B hj => ?_
  dsimp only at hj ⊢
  have hlen := @datC_len _ V.h.r.g n j wr now
  refine W ?_
  refine w_if rfl (fun h' => ?_) (fun h' => ?_)
  · have hlt : j < V.h.r.g.m - 1 := by omega
    have hltw : j < wr.length := by omega
    have hltn : j < now.length := by omega
    have hltd : j < (datL V.h.r.g n).length := by rw [datL_len]; omega
    have hgd : wr.getD j false = wr[j] := by rw [List.getD_eq_getElem?_getD, List.getElem?_eq_getElem hltw]; rfl
    have hgn : now.getD j blk0 = now[j] := by rw [List.getD_eq_getElem?_getD, List.getElem?_eq_getElem hltn]; rfl
    have hsucc := @datC_succ _ V.h.r.g n j wr now
    rw [hgd, hgn] at hsucc
    refine W ?_
    cases hb : wr[j] with
    | false =>
      rw [hb] at hsucc
      have hsucc : datC V.h.r.g n wr now j = datC V.h.r.g n wr now (j + 1) := by rw [hsucc]; simp
      rw [hsucc]
      refine W ?_
      exact w_land rfl (w_round (j + 1, a, c) (by show j + 1 ≤ V.h.r.g.m - 1; omega) (by show V.h.r.g.m - 1 - (j + 1) < V.h.r.g.m - 1 - j; omega) sl_ ent_)
    | true =>
      rw [hb, if_pos rfl] at hsucc
      refine W ?_
      have hgd2 := datL_get hltd
      refine w_bs1 eCel ⟨n, (datL V.h.r.g n)[j], now[j]⟩ rfl rfl rfl (by decide) fun gt => ?_
      refine W ?_
      refine w_ap eCel (sel_ : Sel (sv eCel 163 _ a c) _ _) (rd_row (show rowc eCel 163 [⟨n, (datL V.h.r.g n)[j], now[j]⟩] gt 1 ∈ _ from mem_)) (by simp; omega) (by simp; omega) (hn0 := rfl) fun a2 c2 => ?_
      have e1 : datC V.h.r.g n wr now j ++ [⟨n, (datL V.h.r.g n)[j], now[j]⟩] = datC V.h.r.g n wr now (j + 1) := by rw [hsucc, hgd2]
      rw [e1]
      refine W ?_
      exact w_land rfl (w_round (j + 1, a2, c2) (by show j + 1 ≤ V.h.r.g.m - 1; omega) (by show V.h.r.g.m - 1 - (j + 1) < V.h.r.g.m - 1 - j; omega) sl_ ent_)
  · have hjj : j = V.h.r.g.m - 1 := by omega
    subst hjj
    refine W ?_
    refine w_loop (γ := Vlt) (fun V1 => [(0, PP gv), (3, PP g3), (5, .slice a (datC V.h.r.g n wr now (V.h.r.g.m - 1)).length c)])
      (fun V1 => VtG V.h.r.g gv gh gb gs V1 ++ rwsC V.h.r.g n ad aw an wr now ++ [cl g3 (stqL V.h.r.g n ad aw an) 147, sv eCel 163 (datC V.h.r.g n wr now (V.h.r.g.m - 1)) a c])
      (fun V1 => VS C C (30000 * cnt V1.h.r.st 1 16) V V1 ∧ V1.l = V.l ∧ V1.h.r.state ≠ 5) (fun V1 => 16 - cnt V1.h.r.st 1 16) V sl_ ent_
      ⟨VS.refl k, rfl, h5⟩ fun V1 B ⟨hv1, hl1, h51⟩ => ?_
    have hg1 : V1.h.r.g = V.h.r.g := hv1.mv.g
    obtain ⟨sk1, B0, sb1⟩ := hv1.ok.sk h51
    have h41 := f41 (gh := gh) (gb := gb) (h := V1.h)
    have h148 := f148 (gv := gv) (gh := gh) (gb := gb) (gs := gs) (l := lgV V1.l) (h := V1.h) (s := V1.s) (n := n) (ad := ad) (aw := aw) (an := an) (wr := wr) hv1.ok.hb.ok (by rw [hg1]; exact hn) (by rw [hg1]; exact hwr) hc
    rw [hg1] at h148
    refine W ?_
    refine cv h41 ?_
    refine W1 fun g8 => ?_
    refine cl' h148 ?_
    rintro _ _ ⟨rfl, way, na, nn, nc, rfl, hway⟩
    refine W1 fun g9 => ?_
    have hw4 : way = 1 ∨ way = 2 ∨ way = 3 ∨ way = 4 := by
      rcases hway with ⟨h, _⟩ | ⟨(⟨h, _⟩ | h | h), _⟩ <;> omega
    have hpar : way ≠ 1 → V1.h.r.has (V.h.r.g.par n) n = true := by
      intro hw1
      rcases hway with ⟨h, _⟩ | ⟨_, (h | ⟨i, hi, h⟩)⟩
      · exact absurd h hw1
      · exact h
      · cases hpp : V1.h.r.has (V.h.r.g.par n) n with
        | true => rfl
        | false => exact absurd (two_out (by have := Geo.dat_lt hg n i; omega) (by have := Geo.par_lt hg n; omega) (Geo.dat_ne hg hi) (has_out h) (has_out hpp)) h51
    rw [show (((V.h.r.g.m - 1 : Nat) : Int) + 1) = (V.h.r.g.m : Int) by omega]
    refine w_mk (E := eBlk) blk0 V.h.r.g.m rfl inferInstance rfl rfl rfl (by simp only [maxLen]; omega) (by omega) fun go => ?_
    rw [List.length_replicate]
    have h149 := f149 (g := V.h.r.g) (n := n) (ad := ad) (aw := aw) (an := an) (wr := wr) (way := way) hg hwr hw4
    refine W ?_
    refine cl' h149 ?_
    rintro _ _ ⟨a2, c2, rfl, rfl⟩
    refine W ?_
    have hnl : (nds wr way).length ≤ 17 := by
      have h1 := List.length_filter_le (ndW wr way) (List.range wr.length)
      rw [List.length_range] at h1
      unfold nds
      rw [List.length_append]
      split <;> simp <;> omega
    refine w_loop (γ := Nat × Vlt × List Blk) (fun ⟨j, V2, old⟩ => [(0, PP gv), (3, PP g3), (5, .slice a (datC V.h.r.g n wr now (V.h.r.g.m - 1)).length c), (8, PP g8), (9, PP g9), (10, SL go V.h.r.g.m V.h.r.g.m), (60, .slice a2 (nds wr way).length c2), (61, I (nds wr way).length), (62, I j)])
      (fun ⟨j, V2, old⟩ => VtG V.h.r.g gv gh gb gs V2 ++ rwsC V.h.r.g n ad aw an wr now ++ [cl g3 (stqL V.h.r.g n ad aw an) 147, sv eCel 163 (datC V.h.r.g n wr now (V.h.r.g.m - 1)) a c, cl g8 (roL V1.h.r) 92, cl g9 [u8 way, .slice na nn nc] 204, rowc eBlk 51 old go V.h.r.g.m, sv eNat 3 (nds wr way) a2 c2])
      (fun ⟨j, V2, old⟩ => j ≤ (nds wr way).length ∧ HS (1200 * j) V1.h V1.b V2.h V2.b ∧ V2.l = V1.l ∧ V2.h.r.state ≠ 5 ∧ SB C B0 V2.h V2.b V2.s ∧ SK V.h.r.g V2.s V1.l ∧ (∀ k, (V2.s.F k).drt = (V1.s.F k).drt) ∧ (∀ i, i < V.h.r.g.m → (V2.s.F n).dr i = (V1.s.F n).dr i) ∧ old.length = V.h.r.g.m ∧ (∀ i ∈ (nds wr way).take j, old.getD i blk0 = C n (V.h.r.g.mem n i)))
      (fun x => (nds wr way).length - x.1) (0, V1, List.replicate V.h.r.g.m blk0) sl_ ent_
      ⟨Nat.zero_le _, HS.refl hv1.ok.hb, rfl, h51, sb1, by rw [← hg1]; exact sk1, fun _ => rfl, fun _ _ => rfl, List.length_replicate, fun i hi => by cases hi⟩ fun ⟨j, V2, old⟩ B ⟨hj2, hs2, hl2, h52, sb2, sk2, hdt, hdr, hol, hold⟩ => ?_
    dsimp only at hj2 hs2 hl2 h52 sb2 sk2 hdt hdr hol hold ⊢
    have hg2 : V2.h.r.g = V.h.r.g := hs2.re.g.trans hg1
    have hb2 := hv1.ok.hb.st hs2
    have hkv := hs2.be.k2
    have hk1 := hv1.k
    have hct := @cnt_top _ V1.h.r.st 1 16
    refine W ?_
    refine w_if rfl (fun h'' => ?_) (fun h'' => ?_)
    · have hlt2 : j < (nds wr way).length := by omega
      have hmi := mem_nds.1 (List.getElem_mem hlt2)
      have hile : (nds wr way)[j] ≤ V.h.r.g.m - 1 := by rcases hmi with ⟨h, _⟩ | ⟨_, h⟩ <;> omega
      have hml : V.h.r.g.mem n (nds wr way)[j] < V.h.r.g.m := by
        unfold Geo.mem; split
        · exact Geo.par_lt hg n
        · exact Geo.dat_lt hg n _
      have h150 := f150 (g := V.h.r.g) (n := n) (ad := ad) (aw := aw) (an := an) (i := (nds wr way)[j]) hg hile
      have h78 := f78 (gs := gs) (gh := gh) (gb := gb) (s := V2.s) (h := V2.h) (b := V2.b) (n := n) (m := V.h.r.g.mem n (nds wr way)[j]) hb2 (by rw [hs2.id]; exact hv1.ok.id) (by rw [hg2]; exact hn) (by rw [hg2]; exact hml) (by omega)
      rw [hg2] at h78
      refine w_skip ?_
      refine g_svp rfl (sel_ : Sel (sv eNat 3 (nds wr way) a2 c2) _ _) (by omega) fun ga hga => ?_
      subst hga
      refine g_shp rfl (sel_ : Sel (ShC gs V.h.r.g V2.s) _ _) fun hp => ?_
      refine W ?_
      refine w_dag [.q 0, .q 1, .q 2, .q 3, .q 4, .q 5, .q 6, .q 7, .q 8, .q 9, .q 10, .q 11, .q 12, .q 13, .f 18, .m 14 [], .q 15, .q 16, .q 17, .a 18, .m 19 [17], .q 20] (by decide +kernel) ?_
      refine W ?_
      refine dq h150 ?_
      refine W ?_
      refine dm fun E => ?_
      refine cl' h78 ?_
      rintro v _ ⟨s3, h3, b3, rfl, hs3, hq⟩
      have hcb : (V2.s.F n).kn (V.h.r.g.mem n (nds wr way)[j]) = true ∨ C n (V.h.r.g.mem n (nds wr way)[j]) = B0 n (V.h.r.g.mem n (nds wr way)[j]) := by
        cases hd : (V2.s.F n).dr (V.h.r.g.mem n (nds wr way)[j]) with
        | true => exact .inl (sk2.kd _ _ hd)
        | false =>
          right
          by_cases hi : (nds wr way)[j] = V.h.r.g.m - 1
          · have hw1 : way ≠ 1 := by
              rintro rfl
              rcases hmi with ⟨h, _⟩ | ⟨h, _⟩
              · omega
              · cases h
            have hme : V.h.r.g.mem n (nds wr way)[j] = V.h.r.g.par n := by unfold Geo.mem; rw [if_pos hi]
            rw [hdr _ hml] at hd
            rcases sb1.cl n _ (by rw [hg1]; exact hn) (by rw [hg1]; exact hml) hd with h | ⟨_, h⟩
            · exact h
            · rw [hme, hpar hw1] at h; cases h
          · have hme : V.h.r.g.mem n (nds wr way)[j] = V.h.r.g.dat n (nds wr way)[j] := by unfold Geo.mem; rw [if_neg hi]
            rcases sb2.cl n _ (by rw [hg2]; exact hn) (by rw [hg2]; exact hml) hd with h | ⟨h, _⟩
            · exact h
            · rw [hme, hg2] at h; exact absurd h (Geo.dat_ne hg (by omega))
      obtain ⟨sb3, sk3, hdt3, hv⟩ := read_ok (l := V1.l) sb2 (by rw [hg2]; exact sk2) (by rw [hg2]; exact hp) hb2 h52 (by rw [hg2]; exact hn) (by rw [hg2]; exact hml) hs3 hq hcb
      have hdr3 := read_dr (g := V.h.r.g) (l := V1.l) hq hg2 hp sk2
      have hg3 : h3.r.g = V.h.r.g := hs3.re.g.trans hg2
      have hs4 : HS (1200 * (j + 1)) V1.h V1.b h3 b3 := (hs2.trans hs3).mono (by omega)
      rcases hv with ⟨rfl, h6⟩ | ⟨rfl, h6⟩
      · refine W1 fun g13 => ?_
        refine cv f79v ?_
        have hlo : (nds wr way)[j] < old.length := by omega
        refine W ?_
        refine w_stE (E := eBlk) (i := (nds wr way)[j]) (x := C n (V.h.r.g.mem n (nds wr way)[j])) inferInstance rfl rfl rfl hlo rfl upd_ ?_
        refine W ?_
        refine w_land rfl (w_round (j + 1, ⟨h3, b3, s3, V2.l⟩, old.set (nds wr way)[j] (C n (V.h.r.g.mem n (nds wr way)[j]))) ⟨hlt2, hs4, hl2, h6, sb3, by rw [← hg3]; exact sk3, fun i => (hdt3 i).trans (hdt i), fun i hi => (hdr3 n i hi).trans (hdr i hi), by rw [List.length_set]; exact hol, fun i hi => ?_⟩ (by show (nds wr way).length - (j + 1) < (nds wr way).length - j; omega) sl_ (Ent.sel sel_ (Ent.sel sel_ (Ent.sel sel_ (Ent.sel sel_ (Ent.sel sel_ (Ent.sel sel_ (Ent.sel sel_ (Ent.sel sel_ (Ent.sel sel_ (Ent.sel sel_ (Ent.sel sel_ (Ent.sel sel_ (Ent.sel sel_ (Ent.sel sel_ (Ent.trans (Ent.sel (sel_ : Sel (rowc eNat 3 (nds wr way) ga c2) _ _) (.refl _)) (ent_sv ent_)))))))))))))))))
        rw [List.take_succ_eq_append_getElem hlt2, List.mem_append] at hi
        by_cases hik : i = (nds wr way)[j]
        · rw [hik, List.getD_eq_getElem?_getD, List.getElem?_set_self hlo]; rfl
        · rw [List.getD_eq_getElem?_getD, List.getElem?_set_ne (Ne.symm hik), ← List.getD_eq_getElem?_getD]
          rcases hi with hi | hi
          · exact hold i hi
          · exact absurd (List.mem_singleton.1 hi) hik
      · refine W1 fun g13 => ?_
        refine clP (f79q (e := 16) (by decide)) (fun v M hq => ?_) (fun v M hq => ?_)
        · cases hq.1
        · obtain ⟨e, rfl⟩ := hq
          cases e
          have hvs := hv1.trans (VK.shelfc (h := V1.h) (b := V1.b) (s := V1.s) (s' := s3) (l := V1.l) hv1.ok hs4 (fun e => absurd h6 e) fun j => (hdt3 j).trans (hdt j))
          refine w_pan ?_
          refine finP ⟨⟨h3, b3, s3, V2.l⟩, by rw [hl2]; exact hvs.mono (by omega), hl2.trans hl1, .inr ⟨rfl, h6, rfl⟩⟩ ?_
          show Ent _ [_, _, _, ShC gs h3.r.g s3, _, _, _, _, _]
          rw [hg3]; exact ent_
    · have hjj : j = (nds wr way).length := by omega
      subst hjj
      rw [List.take_length] at hold
      have h41b := f41 (gh := gh) (gb := gb) (h := V2.h)
      have hvs := hv1.trans (VK.shelfc (h := V1.h) (b := V1.b) (s := V1.s) (s' := V2.s) (l := V1.l) hv1.ok hs2 (fun _ => ⟨by rw [hg2]; exact sk2, B0, sb2⟩) hdt)
      have hvs : VS C C (30000 * cnt V1.h.r.st 1 16 + 1200 * (nds wr way).length) V V2 := by
        have e : V2 = ⟨V2.h, V2.b, V2.s, V1.l⟩ := by rw [← hl2]
        rw [e]; exact hvs
      refine W ?_
      first | refine cv h41b ?_ | refine cq h41b ?_ | refine cqs h41b ?_
      refine W ?_
      refine w_y rfl rfl rfl (y_neR hvs.ok.hb.ok hv1.ok.hb.ok rfl rfl) ?_
      by_cases hsm : V2.h.r.same V1.h.r
      · rw [decide_eq_true hsm]
        refine W ?_
        by_cases hw1 : way = 1
        · subst hw1
          refine W ?_
          rcases hway with ⟨_, hh⟩ | ⟨(⟨h, _⟩ | h | h), _⟩
          · refine finE ⟨V2, hvs.mono (by omega), hl2.trans hl1, .inl ⟨h52, datC V.h.r.g n wr now (V.h.r.g.m - 1), a, c, rfl, rfl, .inl ⟨rfl, by rw [same_has hsm (by have := Geo.par_lt hg n; omega)]; exact hh⟩⟩⟩ ?_
            show Ent _ [_, _, _, ShC gs V2.h.r.g V2.s, _, _, _, _, _, _]
            rw [hg2]; exact ent_
          · cases h
          · cases h
          · cases h
        · rw [decide_eq_false (show ¬ ((way : Nat) : Int) = 1 by omega)]
          have hway2 : (way = 2 ∧ wr.count true = wr.length) ∨ way = 3 ∨ way = 4 := by
            rcases hway with ⟨h, _⟩ | ⟨h, _⟩
            · exact absurd h hw1
            · exact h
          have h151 := f151 (way := way) (n := V.h.r.g.m - 1) (wr := wr) (old := old) (now := now) (par := old.getD (V.h.r.g.m - 1) blk0) (gw := aw) (cw := V.h.r.g.m - 1) (go := go) (co := V.h.r.g.m) (gn := an) (cn := V.h.r.g.m - 1) (by omega) (by omega) hwr (by omega) hnow (by rcases hway2 with ⟨h, _⟩ | h | h <;> omega)
          rw [par_ok hg (by have := k.cx n hn; exact this) hwr hway2 hold] at h151
          have hlo : V.h.r.g.m - 1 < old.length := by omega
          have hgo : old.getD (V.h.r.g.m - 1) blk0 = old[V.h.r.g.m - 1] := by rw [List.getD_eq_getElem?_getD, List.getElem?_eq_getElem hlo]; rfl
          rw [hgo] at h151
          refine W ?_
          refine w_dag [.q 0, .q 1, .q 2, .q 3, .q 4, .q 5, .q 6, .q 7, .q 8, .q 9, .q 10, .q 11, .q 12, .q 13, .q 14, .q 15, .q 16, .f 21, .m 17 [], .q 18, .q 19, .q 20, .a 21, .m 22 [20], .q 23] (by decide +kernel) ?_
          refine W ?_
          refine w_dgq rfl rfl (fun E => qn rfl (y_sl0 (h := V.h.r.g.m - 1) rfl rfl (by omega) (by omega))) ?_
          refine W ?_
          refine w_dgq rfl rfl (fun E => qn rfl (y_ldA (E := eBlk) (e := 51) (l := old) (g := go) (cap := V.h.r.g.m) (i := V.h.r.g.m - 1) (s := 64) rfl mem_ rfl rfl hlo inferInstance)) ?_
          refine W ?_
          refine dm fun E => ?_
          refine cv h151 ?_
          refine W1 fun g15 => ?_
          refine cv f79v ?_
          refine W ?_
          refine w_bs1 eCel ⟨n, V.h.r.g.par n, nwP C V.h.r.g n wr now⟩ rfl rfl rfl (by decide) fun gt => ?_
          refine W ?_
          have hdl := @datC_len _ V.h.r.g n (V.h.r.g.m - 1) wr now
          refine w_ap eCel (sel_ : Sel (sv eCel 163 _ a c) _ _) (rd_row (show rowc eCel 163 [⟨n, V.h.r.g.par n, nwP C V.h.r.g n wr now⟩] gt 1 ∈ _ from mem_)) (by simp; omega) (by simp; omega) (hn0 := rfl) fun a4 c4 => ?_
          refine W ?_
          refine finE ⟨V2, hvs.mono (by omega), hl2.trans hl1, .inl ⟨h52, _, a4, c4, rfl, rfl, .inr rfl⟩⟩ ?_
          show Ent _ [_, _, _, ShC gs V2.h.r.g V2.s, _, _, _, _, _, _]
          rw [hg2]; exact ent_
      · rw [decide_eq_false hsm]
        have hct2 := re_cnt hs2.re hv1.ok.hb.ok hsm
        refine W ?_
        exact w_land rfl (w_round V2 ⟨hvs.mono (by omega), hl2.trans hl1, h52⟩ (by have := @cnt_top _ V2.h.r.st 1 16; omega) sl_ ent_)
end
end Go.Proofs.YtnilejkfbcnkkaaGreatDoor.V
end
section
set_option maxRecDepth 100000
set_option maxHeartbeats 1000000
namespace Go.Proofs.YtnilejkfbcnkkaaGreatDoor.V
variable [GlK]
open Go Go.RowKit

/-- for each key what it stands on -/
def ChsC (ks : List Nat) (G : Nat → Hp) : Chunk := exC 61 (fun _ : Unit => ks.flatMap G)
section
variable {ks ks' : List Nat} {G G' : Nat → Hp} {K L : Hp} {k : Nat}
theorem chs_nil (h : Ent L K) : Ent L (ChsC [] G :: K) := ent_ex () h
theorem chs_ent (hp : ks.Perm ks') (hf : ∀ k ∈ ks', G k = G' k) : Ent (ChsC ks G :: K) (ChsC ks' G' :: K) := by
  refine (ent_exU (Ent.refl _)).trans (ent_ex () ?_)
  have e : ks'.flatMap G' = ks'.flatMap G := by
    rw [List.flatMap_def, List.flatMap_def]
    congr 1
    exact List.map_congr_left fun p hp => (hf p hp).symm
  rw [e]
  exact Ent.perm ((hp.flatMap_right G).append_right K)
theorem chs_cons : Ent (ChsC (k :: ks) G :: K) (G k ++ ChsC ks G :: K) := by
  refine (ent_exU (Ent.refl _)).trans ?_
  show Ent ((G k ++ ks.flatMap G) ++ K) _
  rw [List.append_assoc]
  exact Ent.app (Ent.refl _) (ent_ex () (.refl _))
theorem chs_cons' : Ent (G k ++ ChsC ks G :: K) (ChsC (k :: ks) G :: K) := by
  refine ent_ex () ?_
  show Ent _ ((G k ++ ks.flatMap G) ++ K)
  rw [List.append_assoc]
  exact Ent.app (Ent.refl _) (ent_exU (Ent.refl _))
theorem chs_out (h : k ∈ ks) : Ent (ChsC ks G :: K) (G k ++ ChsC (ks.erase k) G :: K) :=
  (chs_ent (List.perm_cons_erase h) fun _ _ => rfl).trans chs_cons
theorem chs_in (h : k ∈ ks) (hn : ks.Nodup) (hf : ∀ j, j ≠ k → G' j = G j) : Ent (G' k ++ ChsC (ks.erase k) G :: K) (ChsC ks G' :: K) := by
  refine Ent.trans ?_ (chs_ent (List.perm_cons_erase h).symm fun _ _ => rfl)
  refine Ent.trans ?_ chs_cons'
  refine Ent.app (Ent.refl _) (chs_ent (.refl _) fun j hj => ?_)
  refine (hf j ?_).symm
  rintro rfl
  exact (hn.not_mem_erase) hj
theorem chs_add (hf : ∀ j ∈ ks, G' j = G j) : Ent (G' k ++ ChsC ks G :: K) (ChsC (ks ++ [k]) G' :: K) := by
  refine Ent.trans ?_ (chs_ent (List.perm_append_comm (l₁ := [k]) (l₂ := ks)) fun _ _ => rfl)
  refine Ent.trans ?_ chs_cons'
  exact Ent.app (Ent.refl _) (chs_ent (.refl _) fun j hj => (hf j hj).symm)
end
end Go.Proofs.YtnilejkfbcnkkaaGreatDoor.V
end
section
set_option maxRecDepth 100000
set_option maxHeartbeats 1000000
namespace Go.Proofs.YtnilejkfbcnkkaaGreatDoor.V
variable [GlK]
open Go Go.RowKit
attribute [local irreducible] Yields cl blk pur rowc sv exC fo cnt xorb blk0

/-- what was written last -/
def lastO (p : List (Nat × Blk)) (b : Nat) : Option Blk := p.foldl (fun acc w => if w.1 = b then some w.2 else acc) none
theorem lastO_snoc {p : List (Nat × Blk)} {w : Nat × Blk} {b : Nat} : lastO (p ++ [w]) b = if w.1 = b then some w.2 else lastO p b := by
  unfold lastO; rw [List.foldl_append]; rfl
theorem snoc_ind {α : Type} {P : List α → Prop} (h0 : P []) (h1 : ∀ l x, P l → P (l ++ [x])) (l : List α) : P l := by
  have key : ∀ m : List α, P m.reverse := by
    intro m
    induction m with
    | nil => exact h0
    | cons x m ih => rw [List.reverse_cons]; exact h1 _ _ ih
  have := key l.reverse
  rwa [List.reverse_reverse] at this
theorem lastO_none {p : List (Nat × Blk)} {b : Nat} (h : ∀ w ∈ p, w.1 ≠ b) : lastO p b = none := by
  revert h
  refine snoc_ind (P := fun p => (∀ w ∈ p, w.1 ≠ b) → lastO p b = none) (fun _ => rfl) (fun p w ih h => ?_) p
  rw [lastO_snoc, if_neg (h w (by simp))]
  exact ih fun x hx => h x (List.mem_append_left _ hx)
theorem lastO_some {p : List (Nat × Blk)} {b : Nat} {x : Blk} (h : lastO p b = some x) : ∃ w ∈ p, w.1 = b := by
  refine Classical.byContradiction fun hc => ?_
  rw [lastO_none fun w hw e => hc ⟨w, hw, e⟩] at h
  cases h
theorem lastO_is {p : List (Nat × Blk)} {b : Nat} (h : ∃ w ∈ p, w.1 = b) : (lastO p b).isSome = true := by
  revert h
  refine snoc_ind (P := fun p => (∃ w ∈ p, w.1 = b) → (lastO p b).isSome = true) (fun ⟨w, hw, _⟩ => by cases hw) (fun p w ih h => ?_) p
  rw [lastO_snoc]
  by_cases e : w.1 = b
  · rw [if_pos e]; rfl
  · rw [if_neg e]
    obtain ⟨x, hx, e2⟩ := h
    rcases List.mem_append.1 hx with hx | hx
    · exact ih ⟨x, hx, e2⟩
    · rw [List.mem_singleton.1 hx] at e2; exact absurd e2 e
/-- which blocks of a stripe were written, and what -/
def wrL (g : Geo) (p : List (Nat × Blk)) (k : Nat) : List Bool := (List.range (g.m - 1)).map fun i => (lastO p (k * (g.m - 1) + i)).isSome
def nwL (g : Geo) (p : List (Nat × Blk)) (k : Nat) : List Blk := (List.range (g.m - 1)).map fun i => (lastO p (k * (g.m - 1) + i)).getD blk0
theorem wrL_len {g : Geo} {p : List (Nat × Blk)} {k : Nat} : (wrL g p k).length = g.m - 1 := by unfold wrL; rw [List.length_map, List.length_range]
theorem nwL_len {g : Geo} {p : List (Nat × Blk)} {k : Nat} : (nwL g p k).length = g.m - 1 := by unfold nwL; rw [List.length_map, List.length_range]
theorem blk_at {M b k i : Nat} (hM : 0 < M) (hi : i < M) : b = k * M + i ↔ (b / M = k ∧ b % M = i) := by
  constructor
  · rintro rfl
    constructor
    · rw [Nat.mul_comm, Nat.mul_add_div hM, Nat.div_eq_of_lt hi]; rfl
    · rw [Nat.mul_comm, Nat.mul_add_mod, Nat.mod_eq_of_lt hi]
  · rintro ⟨rfl, rfl⟩
    rw [Nat.mul_comm]; exact (Nat.div_add_mod b M).symm
theorem wrL_nil {g : Geo} (hg : GeoOk g) {p : List (Nat × Blk)} {k : Nat} (h : ∀ w ∈ p, w.1 / (g.m - 1) ≠ k) : wrL g p k = List.replicate (g.m - 1) false := by
  have hm := hg.m3
  unfold wrL
  rw [List.eq_replicate_iff]
  refine ⟨by simp, fun x hx => ?_⟩
  obtain ⟨i, hi, rfl⟩ := List.mem_map.1 hx
  rw [lastO_none fun w hw e => h w hw ((blk_at (by omega) (List.mem_range.1 hi)).1 e).1]
  rfl
theorem nwL_nil {g : Geo} (hg : GeoOk g) {p : List (Nat × Blk)} {k : Nat} (h : ∀ w ∈ p, w.1 / (g.m - 1) ≠ k) : nwL g p k = List.replicate (g.m - 1) blk0 := by
  have hm := hg.m3
  unfold nwL
  rw [List.eq_replicate_iff]
  refine ⟨by simp, fun x hx => ?_⟩
  obtain ⟨i, hi, rfl⟩ := List.mem_map.1 hx
  rw [lastO_none fun w hw e => h w hw ((blk_at (by omega) (List.mem_range.1 hi)).1 e).1]
  rfl
theorem wrL_oth {g : Geo} (hg : GeoOk g) {p : List (Nat × Blk)} {w : Nat × Blk} {k : Nat} (h : w.1 / (g.m - 1) ≠ k) : wrL g (p ++ [w]) k = wrL g p k := by
  have hm := hg.m3
  unfold wrL
  refine List.map_congr_left fun i hi => ?_
  rw [lastO_snoc, if_neg fun e => h ((blk_at (by omega) (List.mem_range.1 hi)).1 e).1]
theorem nwL_oth {g : Geo} (hg : GeoOk g) {p : List (Nat × Blk)} {w : Nat × Blk} {k : Nat} (h : w.1 / (g.m - 1) ≠ k) : nwL g (p ++ [w]) k = nwL g p k := by
  have hm := hg.m3
  unfold nwL
  refine List.map_congr_left fun i hi => ?_
  rw [lastO_snoc, if_neg fun e => h ((blk_at (by omega) (List.mem_range.1 hi)).1 e).1]
theorem wrL_set {g : Geo} (hg : GeoOk g) {p : List (Nat × Blk)} {w : Nat × Blk} : wrL g (p ++ [w]) (w.1 / (g.m - 1)) = (wrL g p (w.1 / (g.m - 1))).set (w.1 % (g.m - 1)) true := by
  have hm := hg.m3
  have hlt : w.1 % (g.m - 1) < g.m - 1 := Nat.mod_lt _ (by omega)
  refine List.ext_getElem? fun i => ?_
  by_cases hi : i < g.m - 1
  · unfold wrL
    rw [List.getElem?_set]
    simp only [List.getElem?_map, List.getElem?_range hi, Option.map_some, List.length_map, List.length_range]
    rw [lastO_snoc]
    by_cases e : w.1 % (g.m - 1) = i
    · rw [if_pos ((blk_at (by omega) hi).2 ⟨rfl, e⟩), if_pos e, if_pos hlt]; rfl
    · rw [if_neg fun h => e ((blk_at (by omega) hi).1 h).2, if_neg e]
  · rw [List.getElem?_eq_none (by rw [wrL_len]; omega), List.getElem?_eq_none (by rw [List.length_set, wrL_len]; omega)]
theorem nwL_set {g : Geo} (hg : GeoOk g) {p : List (Nat × Blk)} {w : Nat × Blk} : nwL g (p ++ [w]) (w.1 / (g.m - 1)) = (nwL g p (w.1 / (g.m - 1))).set (w.1 % (g.m - 1)) w.2 := by
  have hm := hg.m3
  have hlt : w.1 % (g.m - 1) < g.m - 1 := Nat.mod_lt _ (by omega)
  refine List.ext_getElem? fun i => ?_
  by_cases hi : i < g.m - 1
  · unfold nwL
    rw [List.getElem?_set]
    simp only [List.getElem?_map, List.getElem?_range hi, Option.map_some, List.length_map, List.length_range]
    rw [lastO_snoc]
    by_cases e : w.1 % (g.m - 1) = i
    · rw [if_pos ((blk_at (by omega) hi).2 ⟨rfl, e⟩), if_pos e, if_pos hlt]; rfl
    · rw [if_neg fun h => e ((blk_at (by omega) hi).1 h).2, if_neg e]
  · rw [List.getElem?_eq_none (by rw [nwL_len]; omega), List.getElem?_eq_none (by rw [List.length_set, nwL_len]; omega)]
/-- where a stripe's value and rows lie -/
structure Adr where
  p : Nat
  d : Nat
  w : Nat
  n : Nat
abbrev stqA (g : Geo) (k : Nat) (q : Adr) : List Value := stqL g k q.d q.w q.n
/-- a stripe's rows -/
abbrev rwG (g : Geo) (Q : Nat → Adr) (p : List (Nat × Blk)) (k : Nat) : Hp := [rowc eNat 3 (datL g k) (Q k).d (g.m - 1), rowc eBool 4 (wrL g p k) (Q k).w (g.m - 1), rowc eBlk 51 (nwL g p k) (Q k).n (g.m - 1)]
abbrev stG (g : Geo) (Q : Nat → Adr) (p : List (Nat × Blk)) (k : Nat) : Hp := cl (Q k).p (stqA g k (Q k)) 147 :: rwG g Q p k
def eStq (g : Geo) (Q : Nat → Adr) : Enc Nat := ⟨fun k => stqA g k (Q k), 5, fun _ => rfl, fun k v hv => by
  simp only [List.mem_cons, List.not_mem_nil, or_false] at hv
  rcases hv with rfl | rfl | rfl | rfl | rfl <;> rfl, by omega⟩
instance {g : Geo} {Q : Nat → Adr} : EncV (eStq g Q) (fun k => stqA g k (Q k)) := ⟨rfl⟩
theorem chs_mono {ks : List Nat} {G G' : Nat → Hp} {K : Hp} (h : ∀ k, Ent (G k) (G' k)) : Ent (ChsC ks G :: K) (ChsC ks G' :: K) := by
  refine (ent_exU (Ent.refl _)).trans (ent_ex () ?_)
  refine Ent.app ?_ (Ent.refl _)
  induction ks with
  | nil => exact Ent.refl _
  | cons k ks ih => exact Ent.app (h k) ih
end Go.Proofs.YtnilejkfbcnkkaaGreatDoor.V
end
section
set_option maxRecDepth 100000
set_option maxHeartbeats 2000000
namespace Go.Proofs.YtnilejkfbcnkkaaGreatDoor.V
variable [GlK]
open Go Go.RowKit
attribute [local irreducible] Yields cl blk pur rowc sv exC fo cnt xorb blk0

theorem b147 {k aw an n : Nat} : Tryz.prog.built 147 [(0, I k), (3, SL aw n n), (4, SL an n n)] = some [I k, .slice none 0 0, I 0, SL aw n n, SL an n n].toArray := by
  unfold Program.built; simp only [Tryz.underlying147]; kernel_rfl
section
variable {n : Fp} {w0 : World} {S : Nat → Prop} {X : Post} {R : Regs} {L K : Hp} {kd : Kd}
theorem g_row {α : Type} {E : Enc α} {e : TypeId} {l : List α} {ga c : Nat} (hk : kd.plain = true) (hs : Sel (rowc E e l ga c) L K) (h : Gl n w0 S X kd R (sv E e l (some ⟨ga, 0, none⟩) c :: K)) : Gl n w0 S X kd R L :=
  g_ent hk (Ent.trans (Ent.sel hs (.refl _)) (ent_sv (.refl _))) h
end
theorem f146d {g : Geo} (hg : GeoOk g) {k i gd : Nat} (hi : i < g.m - 1) : CtV Tryz.prog 146 [SL gd (g.m - 1) (g.m - 1), I (g.dat k i)] [sv eNat 3 (datL g k) (some ⟨gd, 0, none⟩) (g.m - 1)] (I i) := by
  have h : CtV Tryz.prog 146 [SL gd (datL g k).length (g.m - 1), I (g.dat k i)] [sv eNat 3 (datL g k) (some ⟨gd, 0, none⟩) (g.m - 1)] (I i) := by
    refine (f146 (l := datL g k) (a := some ⟨gd, 0, none⟩) (c := g.m - 1) (k := g.dat k i)).mono fun v L ⟨h, hL⟩ => ⟨?_, hL⟩
    rcases h with ⟨x, hx, e, rfl⟩ | ⟨h, _⟩
    · rw [datL_get hx] at e
      rw [datL_len] at hx
      rw [Geo.dat_inj hg hx hi e]
    · exact absurd (List.mem_map.2 ⟨i, List.mem_range.2 hi, rfl⟩) h
  rwa [datL_len] at h
/-- the stripes of writes: which there are, where they lie -/
structure StI (g : Geo) (p : List (Nat × Blk)) (m : List (Nat × Nat)) (Q : Nat → Adr) : Prop where
  nd : (m.map Prod.fst).Nodup
  ks : ∀ k, k ∈ m.map Prod.fst ↔ ∃ w ∈ p, w.1 / (g.m - 1) = k
  at_ : ∀ k a, lkp m k = some a → (Q k).p = a
section
variable {gv gh gb gs : Nat} {l : Value} {h : Hul}
theorem f94 {ws : List (Nat × Blk)} {a : Option Addr} {c : Nat} (hr : RosOk h.r) (hws : ws.length ≤ 16) (hin : ∀ w ∈ ws, w.1 < h.r.g.blocks) :
    Ct Tryz.prog 94 [PP gv, .slice a ws.length c] [vtC gv gh gb gs l, huC gh gb h, sv eWt 53 ws a c] (fun v L => ∃ (Q : Nat → Adr) (ks : List Nat) (a' : Option Addr) (c' : Nat), v = .slice a' ks.length c' ∧ ks.Nodup ∧ ks.length ≤ 16 ∧ (∀ k, k ∈ ks ↔ ∃ w ∈ ws, w.1 / (h.r.g.m - 1) = k) ∧
      L = [vtC gv gh gb gs l, huC gh gb h, sv eWt 53 ws a c, sv (eStq h.r.g Q) 147 ks a' c', ChsC ks (rwG h.r.g Q ws)]) := by
  have hg := hr.ge
  have hm3 := hg.m3
  have hm16 := hg.m16
  have h75 := f75 (gv := gv) (gh := gh) (gb := gb) (gs := gs) (l := l) (h := h)
  refine w_ct Tryz.func94 rfl Tryz.ntmps94 rfl fun w B => ?_
  refine W ?_
  refine cv h75 ?_
  refine W1 fun g5 => ?_
  refine w_mm (fun x : Nat => PP x) rfl fun gm => ?_
  refine W ?_
  refine g_nil eNat 3 rfl ?_
  refine w_loop (γ := Nat × Option Addr × Nat × List (Nat × Nat) × (Nat → Adr)) (fun ⟨j, aN, cN, m, Q⟩ => [(0, PP gv), (5, PP g5), (6, .map (some gm)), (7, .slice aN m.length cN), (20, .slice a ws.length c), (21, I ws.length), (22, I j)])
    (fun ⟨j, aN, cN, m, Q⟩ => [vtC gv gh gb gs l, huC gh gb h, sv eWt 53 ws a c, cl g5 (geL h.r.g) 27, mpC (fun x : Nat => PP x) gm m, sv eNat 3 (m.map Prod.fst) aN cN, ChsC (m.map Prod.fst) (stG h.r.g Q (ws.take j))])
    (fun ⟨j, aN, cN, m, Q⟩ => j ≤ ws.length ∧ m.length ≤ j ∧ StI h.r.g (ws.take j) m Q) (fun x => ws.length - x.1) (0, none, 0, [], fun _ => ⟨0, 0, 0, 0⟩) sl_ (Ent.sel sel_ (Ent.sel sel_ (Ent.sel sel_ (Ent.sel sel_ (Ent.sel sel_ (Ent.sel sel_ (chs_nil ent_)))))))
    ⟨Nat.zero_le _, Nat.le_refl _, List.nodup_nil, fun k => by simp, fun k a h => by cases h⟩ fun ⟨j, aN, cN, m, Q⟩ B ⟨hj, hml, hI⟩ => ?_
  dsimp only at hj hml hI ⊢
  refine W ?_
  refine w_if rfl (fun h' => ?_) (fun h' => ?_)
  · have hlt : j < ws.length := by omega
    have hb := hin ws[j] (List.getElem_mem hlt)
    have h74 := f74 hg hb
    have hil : ws[j].1 % (h.r.g.m - 1) < h.r.g.m - 1 := Nat.mod_lt _ (by omega)
    have hks : ws[j].1 / (h.r.g.m - 1) < h.r.g.s := Nat.div_lt_of_lt_mul (by unfold Geo.blocks at hb; rw [Nat.mul_comm]; exact hb)
    have htk : ws.take (j + 1) = ws.take j ++ [ws[j]] := List.take_succ_eq_append_getElem hlt
    generalize hk : ws[j].1 / (h.r.g.m - 1) = k at h74 hks
    refine w_skip ?_
    refine g_svp rfl (sel_ : Sel (sv eWt 53 ws a c) _ _) (by omega) fun ga hga => ?_
    subst hga
    refine W1 fun g9 => ?_
    refine cv h74 ?_
    refine W1 fun g10 => ?_
    refine w_y rfl rfl rfl (y_lk0 rfl rfl mem_) ?_
    cases hlk : lkp m k with
    | none =>
      have h144 := f144 hg hks
      have h145 := f145 hg hks
      refine W ?_
      refine w_dag [.q 0, .q 1, .q 2, .q 3, .q 4, .f 5, .q 6, .q 7, .q 8, .f 9, .a 5, .a 9, .q 10, .m 11 [], .q 12] (by decide +kernel) ?_
      refine W ?_
      refine w_dgf rfl rfl (fr_mk (E := eBool) (k := .i64) (k' := .i64) false (h.r.g.m - 1) rfl inferInstance rfl (by show Value.int .i64 _ = _; congr 1; omega) (by show Value.int .i64 _ = _; congr 1; omega) (by simp only [maxLen]; omega) (by omega)) ?_
      refine W ?_
      refine w_dgf rfl rfl (fr_mk (E := eBlk) (k := .i64) (k' := .i64) blk0 (h.r.g.m - 1) rfl inferInstance rfl (by show Value.int .i64 _ = _; congr 1; omega) (by show Value.int .i64 _ = _; congr 1; omega) (by simp only [maxLen]; omega) (by omega)) ?_
      refine W2 fun gw gn => ?_
      refine dm fun E => ?_
      refine w_bx rfl rfl vc_ fun gp => ?_
      refine W ?_
      refine cl' h144 ?_
      rintro _ _ ⟨gd, rfl, rfl⟩
      refine W ?_
      refine cv h145 ?_
      refine W ?_
      refine w_mu (a := gp) (v := PP gp) rfl rfl rfl rfl upd_ ?_
      refine W ?_
      refine w_bs1 eNat k rfl rfl rfl (by decide) fun gt => ?_
      refine W ?_
      refine w_ap eNat (sel_ : Sel (sv eNat 3 (m.map Prod.fst) aN cN) _ _) (rd_row (show rowc eNat 3 [k] gt 1 ∈ _ from mem_)) (by simp; omega) (by simp; omega) (hn0 := by simp) fun a2 c2 => ?_
      have el : (m.map Prod.fst ++ [k]).length = (putL m k gp).length := by unfold putL; rw [hlk]; simp
      rw [el]
      have hnk : k ∉ m.map Prod.fst := by
        intro h
        obtain ⟨p, hp, e⟩ := List.mem_map.1 h
        exact lkp_none.1 hlk p hp e
      have hno : ∀ w ∈ ws.take j, w.1 / (h.r.g.m - 1) ≠ k := fun w hw e => hnk ((hI.ks k).2 ⟨w, hw, e⟩)
      rw [← wrL_nil hg hno, ← nwL_nil hg hno]
      have h146 := f146d (k := k) (gd := gd) hg hil
      have hlw : ws[j].1 % (h.r.g.m - 1) < (wrL h.r.g (ws.take j) k).length := by rw [wrL_len]; exact hil
      have hln : ws[j].1 % (h.r.g.m - 1) < (nwL h.r.g (ws.take j) k).length := by rw [nwL_len]; exact hil
      have hsw : wrL h.r.g (ws.take (j + 1)) k = (wrL h.r.g (ws.take j) k).set (ws[j].1 % (h.r.g.m - 1)) true := by rw [htk, ← hk]; exact wrL_set hg
      have hsn : nwL h.r.g (ws.take (j + 1)) k = (nwL h.r.g (ws.take j) k).set (ws[j].1 % (h.r.g.m - 1)) ws[j].2 := by rw [htk, ← hk]; exact nwL_set hg
      refine g_row rfl (sel_ : Sel (rowc eNat 3 (datL h.r.g k) gd (h.r.g.m - 1)) _ _) ?_
      refine W ?_
      first | refine cv h146 ?_ | refine cq h146 ?_ | refine cqs h146 ?_
      refine W ?_
      refine w_stE (E := eBool) (i := ws[j].1 % (h.r.g.m - 1)) (x := true) inferInstance rfl rfl rfl hlw rfl upd_ ?_
      refine W ?_
      refine w_stE (E := eBlk) (i := ws[j].1 % (h.r.g.m - 1)) (x := ws[j].2) inferInstance rfl rfl rfl hln rfl upd_ ?_
      rw [← hsw, ← hsn]
      refine g_svp rfl (sel_ : Sel (sv eNat 3 (datL h.r.g k) (some ⟨gd, 0, none⟩) (h.r.g.m - 1)) _ _) (by rw [datL_len]; omega) fun gx hgx => ?_
      cases hgx
      refine W ?_
      have ek : (putL m k gp).map Prod.fst = m.map Prod.fst ++ [k] := by rw [putL_fst, hlk]; rfl
      have hG : stG h.r.g (fset Q k ⟨gp, gd, gw, gn⟩) (ws.take (j + 1)) k = [cl gp (stqL h.r.g k gd gw gn) 147, rowc eNat 3 (datL h.r.g k) gd (h.r.g.m - 1), rowc eBool 4 (wrL h.r.g (ws.take (j + 1)) k) gw (h.r.g.m - 1), rowc eBlk 51 (nwL h.r.g (ws.take (j + 1)) k) gn (h.r.g.m - 1)] := by
        simp only [stG, rwG, stqA, fset_eq]
      refine w_land rfl (w_round (j + 1, a2, c2, putL m k gp, fset Q k ⟨gp, gd, gw, gn⟩) ⟨hlt, ?_, ?_, fun x => ?_, fun x y hxy => ?_⟩ (by show ws.length - (j + 1) < ws.length - j; omega) ?_ ?_)
      · unfold putL; rw [hlk]; simp; omega
      · rw [ek, List.nodup_append]
        refine ⟨hI.nd, by simp, fun x hx y hy => ?_⟩
        rw [List.mem_singleton.1 hy]; rintro rfl; exact hnk hx
      · rw [ek, List.mem_append, hI.ks, htk]
        constructor
        · rintro (⟨w, hw, e⟩ | e)
          · exact ⟨w, List.mem_append_left _ hw, e⟩
          · exact ⟨ws[j], List.mem_append_right _ (List.mem_singleton.2 rfl), by rw [hk, List.mem_singleton.1 e]⟩
        · rintro ⟨w, hw, e⟩
          rcases List.mem_append.1 hw with hw | hw
          · exact .inl ⟨w, hw, e⟩
          · rw [List.mem_singleton.1 hw, hk] at e; exact .inr (by rw [e]; simp)
      · rw [lkp_putL] at hxy
        show (fset Q k (⟨gp, gd, gw, gn⟩ : Adr) x).p = y
        by_cases e : x = k
        · rw [if_pos e] at hxy; cases hxy; rw [e, fset_eq]
        · rw [if_neg e] at hxy; rw [fset_ne e]; exact hI.at_ x y hxy
      · exact sl_
      · show Ent _ [_, _, _, _, mpC _ gm (putL m k gp), sv eNat 3 ((putL m k gp).map Prod.fst) a2 c2, ChsC ((putL m k gp).map Prod.fst) (stG h.r.g (fset Q k ⟨gp, gd, gw, gn⟩) (ws.take (j + 1)))]
        rw [ek]
        refine Ent.sel sel_ (Ent.sel sel_ (Ent.trans (Ent.sel (sel_ : Sel (rowc eWt 53 ws ga c) _ _) (.refl _)) (ent_sv (Ent.sel sel_ (Ent.sel sel_ (Ent.sel sel_ (Ent.sel sel_ (Ent.trans ?_ (chs_add (G := stG h.r.g Q (ws.take j)) (K := []) fun x hx => ?_)))))))))
        · rw [hG]; exact ent_
        · have hxk : x ≠ k := by rintro rfl; exact hnk hx
          simp only [stG, rwG, stqA]
          rw [fset_ne hxk, htk, wrL_oth hg (by rw [hk]; exact Ne.symm hxk), nwL_oth hg (by rw [hk]; exact Ne.symm hxk)]
    | some gp =>
      have hp := hI.at_ k gp hlk
      subst hp
      have hkm : k ∈ m.map Prod.fst := List.mem_map.2 ⟨_, lkp_mem hlk, rfl⟩
      refine g_ent rfl (Ent.trans (Ent.sel (sel_ : Sel (ChsC (m.map Prod.fst) (stG h.r.g Q (ws.take j))) _ _) (.refl _)) (chs_out hkm)) ?_
      have h146 := f146d (k := k) (gd := (Q k).d) hg hil
      have hlw : ws[j].1 % (h.r.g.m - 1) < (wrL h.r.g (ws.take j) k).length := by rw [wrL_len]; exact hil
      have hln : ws[j].1 % (h.r.g.m - 1) < (nwL h.r.g (ws.take j) k).length := by rw [nwL_len]; exact hil
      have hsw : wrL h.r.g (ws.take (j + 1)) k = (wrL h.r.g (ws.take j) k).set (ws[j].1 % (h.r.g.m - 1)) true := by rw [htk, ← hk]; exact wrL_set hg
      have hsn : nwL h.r.g (ws.take (j + 1)) k = (nwL h.r.g (ws.take j) k).set (ws[j].1 % (h.r.g.m - 1)) ws[j].2 := by rw [htk, ← hk]; exact nwL_set hg
      refine g_row rfl (sel_ : Sel (rowc eNat 3 (datL h.r.g k) (Q k).d (h.r.g.m - 1)) _ _) ?_
      refine W ?_
      first | refine cv h146 ?_ | refine cq h146 ?_ | refine cqs h146 ?_
      refine W ?_
      refine w_stE (E := eBool) (i := ws[j].1 % (h.r.g.m - 1)) (x := true) inferInstance rfl rfl rfl hlw rfl upd_ ?_
      refine W ?_
      refine w_stE (E := eBlk) (i := ws[j].1 % (h.r.g.m - 1)) (x := ws[j].2) inferInstance rfl rfl rfl hln rfl upd_ ?_
      rw [← hsw, ← hsn]
      refine g_svp rfl (sel_ : Sel (sv eNat 3 (datL h.r.g k) (some ⟨(Q k).d, 0, none⟩) (h.r.g.m - 1)) _ _) (by rw [datL_len]; omega) fun gx hgx => ?_
      cases hgx
      refine W ?_
      refine w_land rfl (w_round (j + 1, aN, cN, m, Q) ⟨hlt, by show m.length ≤ j + 1; omega, hI.nd, fun x => ?_, hI.at_⟩ (by show ws.length - (j + 1) < ws.length - j; omega) sl_ ?_)
      · rw [hI.ks, htk]
        constructor
        · rintro ⟨w, hw, e⟩
          exact ⟨w, List.mem_append_left _ hw, e⟩
        · rintro ⟨w, hw, e⟩
          rcases List.mem_append.1 hw with hw | hw
          · exact ⟨w, hw, e⟩
          · rw [List.mem_singleton.1 hw, hk] at e
            subst e
            exact (hI.ks _).1 hkm
      · show Ent _ [_, _, _, _, mpC _ gm m, sv eNat 3 (m.map Prod.fst) aN cN, ChsC (m.map Prod.fst) (stG h.r.g Q (ws.take (j + 1)))]
        refine Ent.sel sel_ (Ent.sel sel_ (Ent.trans (Ent.sel (sel_ : Sel (rowc eWt 53 ws ga c) _ _) (.refl _)) (ent_sv (Ent.sel sel_ (Ent.sel sel_ (Ent.sel sel_ (Ent.sel sel_ (Ent.trans ?_ (chs_in (G := stG h.r.g Q (ws.take j)) (K := []) hkm hI.nd fun x hx => ?_)))))))))
        · exact ent_
        · simp only [stG, rwG, stqA]
          rw [htk, wrL_oth hg (by rw [hk]; exact Ne.symm hx), nwL_oth hg (by rw [hk]; exact Ne.symm hx)]
  · have hjj : j = ws.length := by omega
    subst hjj
    rw [List.take_length] at hI ⊢
    have hlen : (srt (m.map Prod.fst)).length = m.length := by rw [srt_len, List.length_map]
    have h118 := f118 (l := m.map Prod.fst) (a := aN) (c := cN) (by rw [List.length_map]; omega)
    rw [List.length_map] at h118
    refine W ?_
    refine cl' h118 ?_
    rintro _ _ ⟨rfl, rfl⟩
    refine W ?_
    refine g_nil (eStq h.r.g Q) 147 rfl ?_
    refine w_loop (γ := Nat × Option Addr × Nat) (fun ⟨i, a3, c3⟩ => [(6, .map (some gm)), (14, .slice a3 i c3), (104, .slice aN m.length cN), (105, I m.length), (106, I i)])
      (fun ⟨i, a3, c3⟩ => [vtC gv gh gb gs l, huC gh gb h, sv eWt 53 ws a c, mpC (fun x : Nat => PP x) gm m, sv eNat 3 (srt (m.map Prod.fst)) aN cN, ChsC (m.map Prod.fst) (stG h.r.g Q ws), sv (eStq h.r.g Q) 147 ((srt (m.map Prod.fst)).take i) a3 c3])
      (fun ⟨i, a3, c3⟩ => i ≤ m.length) (fun x => m.length - x.1) (0, none, 0) sl_ ent_ (Nat.zero_le _) fun ⟨i, a3, c3⟩ B hi => ?_
    dsimp only at hi ⊢
    refine W ?_
    refine w_if rfl (fun h'' => ?_) (fun h'' => ?_)
    · have hlt : i < m.length := by omega
      have hlt2 : i < (srt (m.map Prod.fst)).length := by omega
      have hmem : (srt (m.map Prod.fst))[i] ∈ m.map Prod.fst := srt_perm.mem_iff.1 (List.getElem_mem hlt2)
      obtain ⟨p, hp, hpe⟩ := List.mem_map.1 hmem
      have hlk : lkp m (srt (m.map Prod.fst))[i] = some (Q (srt (m.map Prod.fst))[i]).p := by
        have h1 := lkp_of hI.nd (show ((srt (m.map Prod.fst))[i], p.2) ∈ m by rw [← hpe]; exact hp)
        rw [h1, hI.at_ _ _ h1]
      refine w_skip ?_
      refine g_svp rfl (sel_ : Sel (sv eNat 3 (srt (m.map Prod.fst)) aN cN) _ _) (by omega) fun ga hga => ?_
      subst hga
      refine g_ent rfl (Ent.trans (Ent.sel (sel_ : Sel (ChsC (m.map Prod.fst) (stG h.r.g Q ws)) _ _) (.refl _)) (chs_out hmem)) ?_
      refine W ?_
      refine w_y rfl rfl rfl (y_lk0 rfl rfl mem_) ?_
      rw [hlk]
      refine W ?_
      refine w_bs1 (eStq h.r.g Q) (srt (m.map Prod.fst))[i] rfl rfl rfl (by show 5 ≤ 16777216; decide) fun gt => ?_
      refine W ?_
      refine w_ap (eStq h.r.g Q) (sel_ : Sel (sv (eStq h.r.g Q) 147 _ a3 c3) _ _) (rd_row (show rowc (eStq h.r.g Q) 147 [(srt (m.map Prod.fst))[i]] gt 1 ∈ _ from mem_)) (by simp; omega) (by simp; omega) (hn0 := by simp; omega) fun a4 c4 => ?_
      have e1 : (srt (m.map Prod.fst)).take i ++ [(srt (m.map Prod.fst))[i]] = (srt (m.map Prod.fst)).take (i + 1) := (List.take_succ_eq_append_getElem hlt2).symm
      have e2 : ((srt (m.map Prod.fst)).take (i + 1)).length = i + 1 := by rw [List.length_take]; omega
      rw [e1, e2]
      refine W ?_
      refine w_land rfl (w_round (i + 1, a4, c4) (by show i + 1 ≤ m.length; omega) (by show m.length - (i + 1) < m.length - i; omega) sl_ ?_)
      refine Ent.sel sel_ (Ent.sel sel_ (Ent.sel sel_ (Ent.sel sel_ (Ent.trans (Ent.sel (sel_ : Sel (rowc eNat 3 _ ga cN) _ _) (.refl _)) (ent_sv (Ent.sel sel_ (Ent.trans ?_ (chs_in (G := stG h.r.g Q ws) hmem hI.nd fun x hx => rfl))))))))
      exact ent_
    · have hii : i = m.length := by omega
      subst hii
      rw [← hlen, List.take_length]
      refine W ?_
      refine finE ⟨_, rfl, Q, srt (m.map Prod.fst), a3, c3, rfl, srt_perm.nodup_iff.2 hI.nd, by omega, fun k => srt_perm.mem_iff.trans (hI.ks k), rfl⟩ ?_
      refine Ent.sel sel_ (Ent.sel sel_ (Ent.sel sel_ (Ent.sel sel_ ?_)))
      exact Ent.trans (Ent.sel (sel_ : Sel (ChsC (m.map Prod.fst) (stG h.r.g Q ws)) _ _) Ent.nil) ((chs_ent srt_perm.symm fun _ _ => rfl).trans (chs_mono fun k => ent_))
end
end Go.Proofs.YtnilejkfbcnkkaaGreatDoor.V
end
