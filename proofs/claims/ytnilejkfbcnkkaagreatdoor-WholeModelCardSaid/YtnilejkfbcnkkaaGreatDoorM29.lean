/- Proved: WholeModel's walk; the conditions stand in the statements. -/
import Derived.Test.YtnilejkfbcnkkaaGreatDoorM27
set_option linter.unusedVariables false
set_option linter.unusedSimpArgs false
set_option linter.unusedSectionVars false
section
set_option maxRecDepth 100000
set_option maxHeartbeats 4000000
namespace Go.Proofs.YtnilejkfbcnkkaaGreatDoor.V
variable [GlK]
open Go Go.RowKit
attribute [local irreducible] Yields cl blk pur rowc sv exC fo cnt xorb blk0

theorem dft_hit {ws : List (Nat × Blk)} {k : Nat} (h : k < ws.length) : lkp (dft (ws.take (k + 1)) []) ws[k].1 = some ws[k].2 := by
  rw [List.take_succ_eq_append_getElem h, dft_app]
  show lkp (putL (dft (ws.take k) []) ws[k].1 ws[k].2) ws[k].1 = _
  rw [lkp_putL, if_pos rfl]
section
variable {Z : World} {l : List ActI} {a0 : Option Addr} {b0 o0 c0 : Nat}
theorem f4 {x y z : Nat} (hx : x ≤ 255) (hy : y ≤ 255) (hz : z ≤ 255) (hs : Sl eAc Z l a0 b0 o0 c0) (hb0 : 0 < l.length → b0 ≠ 0) (hin : ∀ a ∈ l, ActI.ok Z a) :
    Ct Tryz.prog 4 [.int .u8 (x : Nat), .int .u8 (y : Nat), .int .u8 (z : Nat), .slice a0 l.length c0] [glC, inZ Z] (fun v M => v = .bool true ∧ M = [glC, inZ Z]) := by
  have h6 := f6 (a := x) (b := y) (c := z) hx hy hz
  have hg : GeoOk (geoN x y z) := geoN_ok
  generalize geoN x y z = g at h6 hg
  have h5 := f5 hg
  have hbl := blk_lt hg
  have h16 := hg.m16
  refine w_ct Tryz.func4 rfl Tryz.ntmps4 rfl fun w B => ?_
  refine W ?_
  refine cv h6 ?_
  refine W ?_
  refine cl' h5 ?_
  rintro _ _ ⟨ga, gk, gm, gv, gh, gb, gs, V, rfl, rfl, hn⟩
  have hnk := hn.k
  refine W ?_
  refine w_loop (γ := Nat × (Nat → Nat → Blk) × Vlt × List Blk) (fun ⟨j, C, V1, L⟩ => [(3, .slice a0 l.length c0), (9, PP ga), (11, I j)]) (fun ⟨j, C, V1, L⟩ => ArM ga gk gm gv gh gb gs g V1 L ++ [inZ Z]) (fun ⟨j, C, V1, L⟩ => j ≤ l.length ∧ j ≤ 50 ∧ AI g C V1 L ∧ OO V1 ∧ V1.b.k ≤ 10000 + j * 200000000) (fun x => 50 - x.1) (0, _, V, _) sl_ ent_ ⟨Nat.zero_le _, Nat.zero_le _, hn.ai, hn.oo, by omega⟩ fun ⟨j, C, V1, L⟩ B ⟨hj, hj2, a, o, hk⟩ => ?_
  dsimp only at hj hj2 a o hk ⊢
  have hlen := a.len
  have hge := a.ge
  refine W ?_
  by_cases h1 : j < l.length
  · rw [decide_eq_true (show (j : Int) < (l.length : Nat) by omega)]
    refine W ?_
    rcases Nat.lt_or_ge j 50 with h2 | h2
    case inr =>
      rw [decide_eq_false (show ¬ (j : Int) < 50 by omega)]
      have h20 := f20 (ga := ga) (gk := gk) (gm := gm) (gv := gv) (gh := gh) (gb := gb) (gs := gs) a o (by omega)
      refine W ?_
      refine cl' h20 ?_
      rintro _ _ ⟨V9, rfl, rfl, _, _⟩
      refine W ?_
      refine cl' f13 ?_
      rintro _ _ ⟨rfl, rfl⟩
      refine W ?_
      exact fin ⟨_, rfl, rfl, rfl⟩
    rw [decide_eq_true (show (j : Int) < 50 by omega)]
    have hlt := h1
    have hb := hb0 (by omega)
    have hok := hin l[j] (List.getElem_mem hlt)
    obtain ⟨wb, wo, hws, hwb⟩ := hok
    have ha0 := hs.at_ (by omega)
    subst ha0
    have hr : Z.rangeAt b0 (o0 + j * 5) (acL l[j]) := hs.rd j hlt
    refine W ?_
    refine w_y rfl rfl rfl (y_ixSl (o' := o0 + j * 5) rfl rfl Tryz.underlying22 z32.h (by omega) (by omega) (by simp)) ?_
    refine w_y rfl rfl rfl (y_loadN (cs := acL l[j]) rfl Tryz.underlying32 rfl z32.h (rd_in mem_ hb hr)) ?_
    have h7 := f7 (gm := gm) (L := L) (by omega) (by omega) hws hwb
    refine W1 fun g10 => ?_
    refine cl' h7 ?_
    rintro _ _ ⟨wa, wc, rfl, rfl⟩
    have hwl2 : (mws L.length l[j].ws).length ≤ 16 := mws_len
    have hwi2 := mws_in (b := L.length) (l := l[j].ws) (by omega)
    generalize mws L.length l[j].ws = ws at hwl2 hwi2 ⊢
    refine W ?_
    refine w_if rfl (fun h => ?_) (fun h => ?_)
    · have h8 := f8 (ga := ga) (gk := gk) (gm := gm) (gv := gv) (gh := gh) (gb := gb) (gs := gs) (sa := wa) (sc := wc) a (by omega) hwl2 hwi2
      refine W ?_
      refine cl' h8 ?_
      rintro _ _ ⟨V2, e, rfl, rfl, hk2, ho2, (⟨rfl, C', a2⟩ | ⟨he, a2, hg2⟩)⟩
      · have h9 := f9 (gm := gm) (L := L) (a := wa) (c := wc) hwi2 hwl2 (by omega)
        have o2 := ho2 o
        refine W ?_
        refine cl' h9 ?_
        rintro _ _ ⟨rfl, rfl⟩
        have hl8 : 0 < List.length (putM ws L) := by have := a2.len; omega
        have hl9 : List.length (putM ws L) ≤ 1024 := by have := a2.len; omega
        obtain ⟨hi, hlt3⟩ := idx_eq (n := l[j].n) (b := List.length (putM ws L)) hl8
        have hu := wrapv_64 l[j].n
        have hin9 : idx l[j].n (List.length (putM ws L)) < (V2).h.r.g.blocks := by rw [a2.ge, ← a2.len]; exact hlt3
        have h17 := f17 (gk := gk) (gv := gv) (gh := gh) (gb := gb) (gs := gs) a2.k hin9 (by omega)
        refine g_ex rfl (sel_ : Sel (ModC gm (putM ws L)) _ _) fun ⟨gl, gc⟩ => ?_
        dsimp only
        refine W ?_
        rw [hi]
        refine W ?_
        refine cl' h17 ?_
        rintro _ _ ⟨V9, rfl, hv9, (⟨rfl, h59⟩ | ⟨rfl, h59⟩)⟩
        case inr => exact absurd h59 ((o2.mv hv9.mv).ne5 hv9.ok)
        have hcell : (V2).h.r.g.cell C' (idx l[j].n (List.length (putM ws L))) = ((putM ws L))[idx l[j].n (List.length (putM ws L))] := by rw [a2.ge]; exact a2.eq _ hlt3
        rw [hcell]
        refine W1 fun g9 => ?_
        refine w_qy rfl rfl (y_neqV (p := ((putM ws L))[idx l[j].n (List.length (putM ws L))]) (q := ((putM ws L))[idx l[j].n (List.length (putM ws L))]) (by constructor <;> rfl) rfl rfl) ?_
        rw [decide_eq_false (show ¬ (((putM ws L))[idx l[j].n (List.length (putM ws L))] ≠ ((putM ws L))[idx l[j].n (List.length (putM ws L))]) from fun h => h rfl)]
        refine W ?_
        have hb9 := hv9.k
        refine w_land rfl (w_round (j + 1, C', V9, (putM ws L)) ⟨by show j + 1 ≤ _; omega, by show j + 1 ≤ 50; omega, a2.vk hv9.ok hv9.mv.g, o2.mv hv9.mv, by show V9.b.k ≤ 10000 + (j + 1) * 200000000; omega⟩ (by show 50 - (j + 1) < 50 - j; omega) sl_ ?_)
        exact Ent.trans (Ent.sel sel_ ent_) (Ent.cons _ (ent_ex (gl, gc) ent_))
      · have o2 := ho2 o
        obtain ⟨rfl, hgone⟩ := hg2 o
        obtain ⟨dd, hO⟩ := o2
        have hdd := hO.gd hgone
        rw [a2.ge] at hdd
        have hl := a2.k.hb.len
        rw [a2.ge] at hl
        have hds : g.m < V2.b.ds.length := by omega
        have hdv : V2.b.ds[g.m].dead = true := by rw [← Ben.dead_eq (List.getElem?_eq_getElem hds)]; exact hdd
        have h14 := f14 (gb := gb) (b := V2.b) (d := g.m) (List.getElem?_eq_getElem hds)
        rw [hdv] at h14
        have o2 : OO V2 := ⟨dd, hO⟩
        refine W ?_
        first | refine cv h14 ?_ | refine cq h14 ?_ | refine cqs h14 ?_
        have hl8 : 0 < List.length L := by have := a2.len; omega
        have hl9 : List.length L ≤ 1024 := by have := a2.len; omega
        obtain ⟨hi, hlt3⟩ := idx_eq (n := l[j].n) (b := List.length L) hl8
        have hu := wrapv_64 l[j].n
        have hin9 : idx l[j].n (List.length L) < (V2).h.r.g.blocks := by rw [a2.ge, ← a2.len]; exact hlt3
        have h17 := f17 (gk := gk) (gv := gv) (gh := gh) (gb := gb) (gs := gs) a2.k hin9 (by omega)
        refine g_ex rfl (sel_ : Sel (ModC gm L) _ _) fun ⟨gl, gc⟩ => ?_
        dsimp only
        refine W ?_
        rw [hi]
        refine W ?_
        refine cl' h17 ?_
        rintro _ _ ⟨V9, rfl, hv9, (⟨rfl, h59⟩ | ⟨rfl, h59⟩)⟩
        case inr => exact absurd h59 ((o2.mv hv9.mv).ne5 hv9.ok)
        have hcell : (V2).h.r.g.cell C (idx l[j].n (List.length L)) = (L)[idx l[j].n (List.length L)] := by rw [a2.ge]; exact a2.eq _ hlt3
        rw [hcell]
        refine W1 fun g9 => ?_
        refine w_qy rfl rfl (y_neqV (p := (L)[idx l[j].n (List.length L)]) (q := (L)[idx l[j].n (List.length L)]) (by constructor <;> rfl) rfl rfl) ?_
        rw [decide_eq_false (show ¬ ((L)[idx l[j].n (List.length L)] ≠ (L)[idx l[j].n (List.length L)]) from fun h => h rfl)]
        refine W ?_
        have hb9 := hv9.k
        refine w_land rfl (w_round (j + 1, C, V9, L) ⟨by show j + 1 ≤ _; omega, by show j + 1 ≤ 50; omega, a2.vk hv9.ok hv9.mv.g, o2.mv hv9.mv, by show V9.b.k ≤ 10000 + (j + 1) * 200000000; omega⟩ (by show 50 - (j + 1) < 50 - j; omega) sl_ ?_)
        exact Ent.trans (Ent.sel sel_ ent_) (Ent.cons _ (ent_ex (gl, gc) ent_))
    refine W ?_
    refine w_if rfl (fun h => ?_) (fun h => ?_)
    · have h15 := f15 (gk := gk) (gv := gv) (gh := gh) (gb := gb) (gs := gs) a.k
      refine W ?_
      refine cl' h15 ?_
      rintro _ _ (⟨h5, rfl, rfl⟩ | ⟨h4, rfl, rfl⟩ | ⟨h5, h4, rfl, gd, rfl⟩)
      · exact absurd h5 (o.ne5 a.k)
      · refine W ?_
        have hk' : V1.b.k ≤ 10000 + (j + 1) * 200000000 := Nat.le_trans hk (Nat.add_le_add_left (Nat.mul_le_mul_right 200000000 (Nat.le_succ j)) 10000)
        exact w_land rfl (w_round (j + 1, C, V1, L) ⟨by show j + 1 ≤ _; omega, by show j + 1 ≤ 50; omega, a, o, hk'⟩ (by show 50 - (j + 1) < 50 - j; omega) sl_ ent_)
      · refine W ?_
        refine w_loop (γ := Nat) (fun i => [(3, .slice (some ⟨b0, o0, none⟩) l.length c0), (9, PP ga), (11, I j), (12, PP g10), (13, .slice wa ws.length wc), (16, I i)]) (fun i => arC ga g gb gk gm :: ModC gm L :: dkC gk gv (PP gd) :: VtM gv gh gb gs V1 ++ [DrC gd g (dft (ws.take i) []), sv eWt 53 ws wa wc, inZ Z, cl g10 (acL l[j]) 32]) (fun i => i ≤ ws.length) (fun i => ws.length - i) 0 sl_ (by rw [← hge]; exact ent_) (Nat.zero_le _) fun i B hi => ?_
        have hdl : (dft (ws.take i) []).length ≤ i := by
          have := dft_len (ws := ws.take i) (m := [])
          have h1 : (ws.take i).length ≤ i := by rw [List.length_take]; omega
          have h2 : ([] : List (Nat × Blk)).length = 0 := rfl
          omega
        refine W ?_
        refine w_if rfl (fun h => ?_) (fun h => ?_)
        · have hlti : i < ws.length := by omega
          have hinw := hwi2 ws[i] (List.getElem_mem hlti)
          have h16 := f16 (gk := gk) (gv := gv) (gd := gd) (m := dft (ws.take i) []) (n := ws[i].1) (x := ws[i].2) (g := g) hg (by rw [← hlen]; exact hinw) (by omega) (.inr (by omega))
          have e1 : putL (dft (ws.take i) []) ws[i].1 ws[i].2 = dft (ws.take (i + 1)) [] := by rw [List.take_succ_eq_append_getElem hlti, dft_app]; rfl
          rw [e1] at h16
          have h17d := f17d (gk := gk) (gv := gv) (gd := gd) (g := g) (dft_hit hlti)
          refine w_skip ?_
          refine g_svp rfl (sel_ : Sel (sv eWt 53 ws wa wc) _ _) (by omega) fun gs' hgs => ?_
          subst hgs
          refine W ?_
          refine cl' h16 ?_
          rintro _ _ ⟨rfl, rfl⟩
          refine W ?_
          refine w_dag [.q 0, .q 1, .q 2, .q 3, .q 4, .q 5, .q 6, .q 7, .q 8, .q 9, .q 10, .q 11, .q 12, .f 13, .a 13, .m 14 [12], .q 15] (by decide +kernel) ?_
          refine W ?_
          refine dq h17d ?_
          refine W ?_
          refine w_dga rfl rfl mem2_ fun g18 => ?_
          refine W ?_
          refine w_qy rfl rfl (y_neqV (p := ws[i].2) (q := ws[i].2) (by constructor <;> rfl) rfl rfl) ?_
          rw [decide_eq_false (show ¬ (ws[i].2 ≠ ws[i].2) from fun h => h rfl)]
          refine W ?_
          refine w_land rfl (w_round (i + 1) (by show i + 1 ≤ ws.length; omega) (by show ws.length - (i + 1) < ws.length - i; omega) sl_ ?_)
          show Ent _ [arC ga g gb gk gm, ModC gm L, dkC gk gv (PP gd), vtC gv gh gb gs (lgV V1.l), huC gh gb V1.h, BenC gb V1.b, ShC gs V1.h.r.g V1.s, lgO gb V1.l, glC, DrC gd g (dft (ws.take (i + 1)) []), sv eWt 53 ws (some ⟨gs', 0, none⟩) wc, inZ Z, cl g10 (acL l[j]) 32]
          iterate 10 refine Ent.sel sel_ ?_
          exact Ent.trans (Ent.sel (sel_ : Sel (rowc eWt 53 ws gs' wc) _ _) (.refl _)) (ent_sv ent_)
        · refine W ?_
          refine cl' (f18 (gk := gk) (gv := gv) (gd := gd)) ?_
          rintro _ _ ⟨rfl, rfl⟩
          have hl8 : 0 < List.length L := by have := a.len; omega
          have hl9 : List.length L ≤ 1024 := by have := a.len; omega
          obtain ⟨hi, hlt3⟩ := idx_eq (n := l[j].n) (b := List.length L) hl8
          have hu := wrapv_64 l[j].n
          have hin9 : idx l[j].n (List.length L) < (V1).h.r.g.blocks := by rw [a.ge, ← a.len]; exact hlt3
          have h17 := f17 (gk := gk) (gv := gv) (gh := gh) (gb := gb) (gs := gs) a.k hin9 (by omega)
          refine g_ex rfl (sel_ : Sel (ModC gm L) _ _) fun ⟨gl, gc⟩ => ?_
          dsimp only
          refine W ?_
          rw [hi]
          refine W ?_
          refine cl' h17 ?_
          rintro _ _ ⟨V9, rfl, hv9, (⟨rfl, h59⟩ | ⟨rfl, h59⟩)⟩
          case inr => exact absurd h59 ((o.mv hv9.mv).ne5 hv9.ok)
          have hcell : (V1).h.r.g.cell C (idx l[j].n (List.length L)) = (L)[idx l[j].n (List.length L)] := by rw [a.ge]; exact a.eq _ hlt3
          rw [hcell]
          refine W1 fun g9 => ?_
          refine w_qy rfl rfl (y_neqV (p := (L)[idx l[j].n (List.length L)]) (q := (L)[idx l[j].n (List.length L)]) (by constructor <;> rfl) rfl rfl) ?_
          rw [decide_eq_false (show ¬ ((L)[idx l[j].n (List.length L)] ≠ (L)[idx l[j].n (List.length L)]) from fun h => h rfl)]
          refine W ?_
          have hb9 := hv9.k
          refine w_land rfl (w_round (j + 1, C, V9, L) ⟨by show j + 1 ≤ _; omega, by show j + 1 ≤ 50; omega, a.vk hv9.ok hv9.mv.g, o.mv hv9.mv, by show V9.b.k ≤ 10000 + (j + 1) * 200000000; omega⟩ (by show 50 - (j + 1) < 50 - j; omega) sl_ ?_)
          exact Ent.trans (Ent.sel sel_ ent_) (Ent.cons _ (ent_ex (gl, gc) ent_))
    refine W ?_
    refine w_if rfl (fun h => ?_) (fun h => ?_)
    · have h19 := f19 (ga := ga) (gk := gk) (gm := gm) (gv := gv) (gh := gh) (gb := gb) (gs := gs) (n := l[j].n) (lg := true) a o (by omega)
      refine W ?_
      refine cl' h19 ?_
      rintro _ _ ⟨V2, rfl, hq2⟩
      have a2 := a.asq hq2
      have hkb2 := hq2.b
      have o2 := (hq2.o o).1
      have hl8 : 0 < List.length L := by have := a2.len; omega
      have hl9 : List.length L ≤ 1024 := by have := a2.len; omega
      obtain ⟨hi, hlt3⟩ := idx_eq (n := l[j].n) (b := List.length L) hl8
      have hu := wrapv_64 l[j].n
      have hin9 : idx l[j].n (List.length L) < (V2).h.r.g.blocks := by rw [a2.ge, ← a2.len]; exact hlt3
      have h17 := f17 (gk := gk) (gv := gv) (gh := gh) (gb := gb) (gs := gs) a2.k hin9 (by omega)
      refine g_ex rfl (sel_ : Sel (ModC gm L) _ _) fun ⟨gl, gc⟩ => ?_
      dsimp only
      refine W ?_
      rw [hi]
      refine W ?_
      refine cl' h17 ?_
      rintro _ _ ⟨V9, rfl, hv9, (⟨rfl, h59⟩ | ⟨rfl, h59⟩)⟩
      case inr => exact absurd h59 ((o2.mv hv9.mv).ne5 hv9.ok)
      have hcell : (V2).h.r.g.cell C (idx l[j].n (List.length L)) = (L)[idx l[j].n (List.length L)] := by rw [a2.ge]; exact a2.eq _ hlt3
      rw [hcell]
      refine W1 fun g9 => ?_
      refine w_qy rfl rfl (y_neqV (p := (L)[idx l[j].n (List.length L)]) (q := (L)[idx l[j].n (List.length L)]) (by constructor <;> rfl) rfl rfl) ?_
      rw [decide_eq_false (show ¬ ((L)[idx l[j].n (List.length L)] ≠ (L)[idx l[j].n (List.length L)]) from fun h => h rfl)]
      refine W ?_
      have hb9 := hv9.k
      refine w_land rfl (w_round (j + 1, C, V9, L) ⟨by show j + 1 ≤ _; omega, by show j + 1 ≤ 50; omega, a2.vk hv9.ok hv9.mv.g, o2.mv hv9.mv, by show V9.b.k ≤ 10000 + (j + 1) * 200000000; omega⟩ (by show 50 - (j + 1) < 50 - j; omega) sl_ ?_)
      exact Ent.trans (Ent.sel sel_ ent_) (Ent.cons _ (ent_ex (gl, gc) ent_))
    · have h11 := f11 (ga := ga) (gk := gk) (gm := gm) (gv := gv) (gh := gh) (gb := gb) (gs := gs) (x := l[j].x) (n := l[j].n) (ar := l[j].ar) (s1 := .slice l[j].wa l[j].ws.length l[j].wc) (s2 := .slice l[j].pa l[j].pl l[j].pc) a (by omega)
      refine W ?_
      refine cl' h11 ?_
      rintro _ _ ⟨V2, e, rfl, rfl, hq2⟩
      have a2 := a.asq hq2
      have hkb2 := hq2.b
      obtain ⟨o2, he⟩ := hq2.o o
      rcases he with rfl | rfl | rfl
      · have hl8 : 0 < List.length L := by have := a2.len; omega
        have hl9 : List.length L ≤ 1024 := by have := a2.len; omega
        obtain ⟨hi, hlt3⟩ := idx_eq (n := l[j].n) (b := List.length L) hl8
        have hu := wrapv_64 l[j].n
        have hin9 : idx l[j].n (List.length L) < (V2).h.r.g.blocks := by rw [a2.ge, ← a2.len]; exact hlt3
        have h17 := f17 (gk := gk) (gv := gv) (gh := gh) (gb := gb) (gs := gs) a2.k hin9 (by omega)
        refine g_ex rfl (sel_ : Sel (ModC gm L) _ _) fun ⟨gl, gc⟩ => ?_
        dsimp only
        refine W ?_
        rw [hi]
        refine W ?_
        refine cl' h17 ?_
        rintro _ _ ⟨V9, rfl, hv9, (⟨rfl, h59⟩ | ⟨rfl, h59⟩)⟩
        case inr => exact absurd h59 ((o2.mv hv9.mv).ne5 hv9.ok)
        have hcell : (V2).h.r.g.cell C (idx l[j].n (List.length L)) = (L)[idx l[j].n (List.length L)] := by rw [a2.ge]; exact a2.eq _ hlt3
        rw [hcell]
        refine W1 fun g9 => ?_
        refine w_qy rfl rfl (y_neqV (p := (L)[idx l[j].n (List.length L)]) (q := (L)[idx l[j].n (List.length L)]) (by constructor <;> rfl) rfl rfl) ?_
        rw [decide_eq_false (show ¬ ((L)[idx l[j].n (List.length L)] ≠ (L)[idx l[j].n (List.length L)]) from fun h => h rfl)]
        refine W ?_
        have hb9 := hv9.k
        refine w_land rfl (w_round (j + 1, C, V9, L) ⟨by show j + 1 ≤ _; omega, by show j + 1 ≤ 50; omega, a2.vk hv9.ok hv9.mv.g, o2.mv hv9.mv, by show V9.b.k ≤ 10000 + (j + 1) * 200000000; omega⟩ (by show 50 - (j + 1) < 50 - j; omega) sl_ ?_)
        exact Ent.trans (Ent.sel sel_ ent_) (Ent.cons _ (ent_ex (gl, gc) ent_))
      · have hl8 : 0 < List.length L := by have := a2.len; omega
        have hl9 : List.length L ≤ 1024 := by have := a2.len; omega
        obtain ⟨hi, hlt3⟩ := idx_eq (n := l[j].n) (b := List.length L) hl8
        have hu := wrapv_64 l[j].n
        have hin9 : idx l[j].n (List.length L) < (V2).h.r.g.blocks := by rw [a2.ge, ← a2.len]; exact hlt3
        have h17 := f17 (gk := gk) (gv := gv) (gh := gh) (gb := gb) (gs := gs) a2.k hin9 (by omega)
        refine g_ex rfl (sel_ : Sel (ModC gm L) _ _) fun ⟨gl, gc⟩ => ?_
        dsimp only
        refine W ?_
        rw [hi]
        refine W ?_
        refine cl' h17 ?_
        rintro _ _ ⟨V9, rfl, hv9, (⟨rfl, h59⟩ | ⟨rfl, h59⟩)⟩
        case inr => exact absurd h59 ((o2.mv hv9.mv).ne5 hv9.ok)
        have hcell : (V2).h.r.g.cell C (idx l[j].n (List.length L)) = (L)[idx l[j].n (List.length L)] := by rw [a2.ge]; exact a2.eq _ hlt3
        rw [hcell]
        refine W1 fun g9 => ?_
        refine w_qy rfl rfl (y_neqV (p := (L)[idx l[j].n (List.length L)]) (q := (L)[idx l[j].n (List.length L)]) (by constructor <;> rfl) rfl rfl) ?_
        rw [decide_eq_false (show ¬ ((L)[idx l[j].n (List.length L)] ≠ (L)[idx l[j].n (List.length L)]) from fun h => h rfl)]
        refine W ?_
        have hb9 := hv9.k
        refine w_land rfl (w_round (j + 1, C, V9, L) ⟨by show j + 1 ≤ _; omega, by show j + 1 ≤ 50; omega, a2.vk hv9.ok hv9.mv.g, o2.mv hv9.mv, by show V9.b.k ≤ 10000 + (j + 1) * 200000000; omega⟩ (by show 50 - (j + 1) < 50 - j; omega) sl_ ?_)
        exact Ent.trans (Ent.sel sel_ ent_) (Ent.cons _ (ent_ex (gl, gc) ent_))
      · have hl8 : 0 < List.length L := by have := a2.len; omega
        have hl9 : List.length L ≤ 1024 := by have := a2.len; omega
        obtain ⟨hi, hlt3⟩ := idx_eq (n := l[j].n) (b := List.length L) hl8
        have hu := wrapv_64 l[j].n
        have hin9 : idx l[j].n (List.length L) < (V2).h.r.g.blocks := by rw [a2.ge, ← a2.len]; exact hlt3
        have h17 := f17 (gk := gk) (gv := gv) (gh := gh) (gb := gb) (gs := gs) a2.k hin9 (by omega)
        refine g_ex rfl (sel_ : Sel (ModC gm L) _ _) fun ⟨gl, gc⟩ => ?_
        dsimp only
        refine W ?_
        rw [hi]
        refine W ?_
        refine cl' h17 ?_
        rintro _ _ ⟨V9, rfl, hv9, (⟨rfl, h59⟩ | ⟨rfl, h59⟩)⟩
        case inr => exact absurd h59 ((o2.mv hv9.mv).ne5 hv9.ok)
        have hcell : (V2).h.r.g.cell C (idx l[j].n (List.length L)) = (L)[idx l[j].n (List.length L)] := by rw [a2.ge]; exact a2.eq _ hlt3
        rw [hcell]
        refine W1 fun g9 => ?_
        refine w_qy rfl rfl (y_neqV (p := (L)[idx l[j].n (List.length L)]) (q := (L)[idx l[j].n (List.length L)]) (by constructor <;> rfl) rfl rfl) ?_
        rw [decide_eq_false (show ¬ ((L)[idx l[j].n (List.length L)] ≠ (L)[idx l[j].n (List.length L)]) from fun h => h rfl)]
        refine W ?_
        have hb9 := hv9.k
        refine w_land rfl (w_round (j + 1, C, V9, L) ⟨by show j + 1 ≤ _; omega, by show j + 1 ≤ 50; omega, a2.vk hv9.ok hv9.mv.g, o2.mv hv9.mv, by show V9.b.k ≤ 10000 + (j + 1) * 200000000; omega⟩ (by show 50 - (j + 1) < 50 - j; omega) sl_ ?_)
        exact Ent.trans (Ent.sel sel_ ent_) (Ent.cons _ (ent_ex (gl, gc) ent_))
  · rw [decide_eq_false (show ¬ (j : Int) < (l.length : Nat) by omega)]
    have h20 := f20 (ga := ga) (gk := gk) (gm := gm) (gv := gv) (gh := gh) (gb := gb) (gs := gs) a o (by omega)
    refine W ?_
    refine cl' h20 ?_
    rintro _ _ ⟨V9, rfl, rfl, _, _⟩
    refine W ?_
    refine cl' f13 ?_
    rintro _ _ ⟨rfl, rfl⟩
    refine W ?_
    exact fin ⟨_, rfl, rfl, rfl⟩
end
end Go.Proofs.YtnilejkfbcnkkaaGreatDoor.V
end
