/- Proved: WholeBeyond's walk; what an argument that can be read as data is: a list of acts; the conditions stand in the statements. -/
import Derived.Test.YtnilejkfbcnkkaaGreatDoorM26
import Derived.Deep.Slices
import Derived.OpenShut
import Derived.SizedLaws
set_option linter.unusedVariables false
set_option linter.unusedSimpArgs false
set_option linter.unusedSectionVars false
section
set_option maxRecDepth 100000
set_option maxHeartbeats 2000000
namespace Go.Proofs.YtnilejkfbcnkkaaGreatDoor.V
variable [GlK]
open Go Go.RowKit
attribute [local irreducible] Yields cl blk pur rowc sv exC fo cnt xorb blk0

/-- an act that came in -/
structure ActI where
  x : Int
  n : Int
  ws : List (Int × Blk)
  wa : Option Addr
  wc : Nat
  ar : Int
  pa : Option Addr
  pl : Nat
  pc : Nat
abbrev acL (y : ActI) : List Value := [.int .i64 y.x, .int .i64 y.n, .slice y.wa y.ws.length y.wc, .int .i64 y.ar, .slice y.pa y.pl y.pc]
def eAc : Enc ActI := ⟨acL, 5, fun _ => rfl, fun y v hv => by
  simp only [List.mem_cons, List.not_mem_nil, or_false] at hv
  rcases hv with rfl | rfl | rfl | rfl | rfl <;> rfl, by omega⟩
/-- its writes stand as they stood -/
def ActI.ok (Z : World) (y : ActI) : Prop := ∃ b o, Sl eWr Z y.ws y.wa b o y.wc ∧ (0 < y.ws.length → b ≠ 0)
theorem mws_len {b : Nat} {l : List (Int × Blk)} : (mws b l).length ≤ 16 := by unfold mws; rw [List.length_map, List.length_take]; omega
theorem mws_in {b : Nat} {l : List (Int × Blk)} (hb : 0 < b) : ∀ w ∈ mws b l, w.1 < b := by
  intro w hw
  unfold mws at hw
  obtain ⟨p, _, rfl⟩ := List.mem_map.1 hw
  exact (idx_eq hb).2
section
variable {Z : World} {l : List ActI} {a0 : Option Addr} {b0 o0 c0 : Nat}
theorem f3 {x y : Nat} (hx : x ≤ 255) (hy : y ≤ 255) (hs : Sl eAc Z l a0 b0 o0 c0) (hb0 : 0 < l.length → b0 ≠ 0) (hin : ∀ a ∈ l, ActI.ok Z a) :
    Ct Tryz.prog 3 [.int .u8 (x : Nat), .int .u8 (y : Nat), .slice a0 l.length c0] [glC, inZ Z] (fun v M => v = .bool true ∧ M = [glC, inZ Z]) := by
  have h6 := f6 (a := x) (b := y) (c := 0) hx hy (by omega)
  have hg : GeoOk (geoN x y 0) := geoN_ok
  generalize geoN x y 0 = g at h6 hg
  have h5 := f5 hg
  have hbl := blk_lt hg
  have h16 := hg.m16
  refine w_ct Tryz.func3 rfl Tryz.ntmps3 rfl fun w B => ?_
  refine W ?_
  refine cv h6 ?_
  refine W ?_
  refine cl' h5 ?_
  rintro _ _ ⟨ga, gk, gm, gv, gh, gb, gs, V, rfl, rfl, hn⟩
  have hnk := hn.k
  refine W ?_
  refine w_loop (γ := Nat × (Nat → Nat → Blk) × Vlt × List Blk) (fun ⟨j, C, V1, L⟩ => [(2, .slice a0 l.length c0), (7, PP ga), (9, I j)]) (fun ⟨j, C, V1, L⟩ => ArM ga gk gm gv gh gb gs g V1 L ++ [inZ Z]) (fun ⟨j, C, V1, L⟩ => j ≤ l.length ∧ j ≤ 50 ∧ AI g C V1 L ∧ V1.b.k ≤ 10000 + j * 200000000) (fun x => 50 - x.1) (0, _, V, _) sl_ ent_ ⟨Nat.zero_le _, Nat.zero_le _, hn.ai, by omega⟩ fun ⟨j, C, V1, L⟩ B ⟨hj, hj2, a, hk⟩ => ?_
  dsimp only at hj hj2 a hk ⊢
  have hlen := a.len
  have hge := a.ge
  refine W ?_
  by_cases h1 : j < l.length
  · rw [decide_eq_true (show (j : Int) < (l.length : Nat) by omega)]
    refine W ?_
    rcases Nat.lt_or_ge j 50 with h2 | h2
    case inr =>
      rw [decide_eq_false (show ¬ (j : Int) < 50 by omega)]
      refine W ?_
      refine cl' f13 ?_
      rintro _ _ ⟨rfl, rfl⟩
      refine W ?_
      exact fin ⟨_, rfl, rfl, rfl⟩
    rw [decide_eq_true (show (j : Int) < 50 by omega)]
    have hlt := h1
    have hb := hb0 (by omega)
    have hok := hin l[j] (List.getElem_mem hlt)
    obtain ⟨wb, wo, hws, hwb⟩ := hok
    have ha0 := hs.at_ (by omega)
    subst ha0
    have hr : Z.rangeAt b0 (o0 + j * 5) (acL l[j]) := hs.rd j hlt
    refine W ?_
    refine w_y rfl rfl rfl (y_ixSl (o' := o0 + j * 5) rfl rfl Tryz.underlying22 z32.h (by omega) (by omega) (by simp)) ?_
    refine w_y rfl rfl rfl (y_loadN (cs := acL l[j]) rfl Tryz.underlying32 rfl z32.h (rd_in mem_ hb hr)) ?_
    refine W1 fun g10 => ?_
    refine w_if rfl (fun h => ?_) (fun h => ?_)
    · have h7 := f7 (gm := gm) (L := L) (by omega) (by omega) hws hwb
      refine W ?_
      refine cl' h7 ?_
      rintro _ _ ⟨wa, wc, rfl, rfl⟩
      have h8 := f8 (ga := ga) (gk := gk) (gm := gm) (gv := gv) (gh := gh) (gb := gb) (gs := gs) (sa := wa) (sc := wc) a (by omega) mws_len (mws_in (b := L.length) (l := l[j].ws) (by omega))
      refine W ?_
      refine cl' h8 ?_
      rintro _ _ ⟨V2, e, rfl, rfl, hk2, ho2, (⟨rfl, C', a2⟩ | ⟨he, a2, _⟩)⟩
      · have h9 := f9 (gm := gm) (L := L) (a := wa) (c := wc) (mws_in (b := L.length) (l := l[j].ws) (by omega)) mws_len (by omega)
        refine W ?_
        refine cl' h9 ?_
        rintro _ _ ⟨rfl, rfl⟩
        have h12 := f12 (ga := ga) (gk := gk) (gm := gm) (gv := gv) (gh := gh) (gb := gb) (gs := gs) a2 (by omega)
        refine W ?_
        refine cl' h12 ?_
        rintro _ _ ⟨V9, rfl, rfl, hq9⟩
        have hb9 := hq9.b
        refine W ?_
        exact w_land rfl (w_round (j + 1, C', V9, _) ⟨by show j + 1 ≤ _; omega, by show j + 1 ≤ 50; omega, a2.asq hq9, by show V9.b.k ≤ 10000 + (j + 1) * 200000000; omega⟩ (by show 50 - (j + 1) < 50 - j; omega) sl_ ent_)
      · refine W ?_
        rw [decide_eq_false he]
        have h12 := f12 (ga := ga) (gk := gk) (gm := gm) (gv := gv) (gh := gh) (gb := gb) (gs := gs) a2 (by omega)
        refine W ?_
        refine cl' h12 ?_
        rintro _ _ ⟨V9, rfl, rfl, hq9⟩
        have hb9 := hq9.b
        refine W ?_
        exact w_land rfl (w_round (j + 1, C, V9, L) ⟨by show j + 1 ≤ _; omega, by show j + 1 ≤ 50; omega, a2.asq hq9, by show V9.b.k ≤ 10000 + (j + 1) * 200000000; omega⟩ (by show 50 - (j + 1) < 50 - j; omega) sl_ ent_)
    refine W ?_
    refine w_if rfl (fun h => ?_) (fun h => ?_)
    · obtain ⟨hi, hlt2⟩ := idx_eq (n := l[j].n) (b := g.m + 1) (by omega)
      have hu := wrapv_64 l[j].n
      have hi' : wrapv .u64 l[j].n % ((g.m : Int) + 1) = ((idx l[j].n (g.m + 1) : Nat) : Int) := hi
      have hl := a.k.hb.len
      rw [hge] at hl
      have hds : idx l[j].n (g.m + 1) < V1.b.ds.length := by omega
      have h10 := f10 (gb := gb) (b := V1.b) (d := idx l[j].n (g.m + 1)) (List.getElem?_eq_getElem hds)
      have a2 : AI g C ⟨V1.h, V1.b.fail (idx l[j].n (g.m + 1)) V1.b.ds[idx l[j].n (g.m + 1)], V1.s, V1.l⟩ L := a.vk (VK.fail (h := V1.h) (b := V1.b) (s := V1.s) (l := V1.l) a.k (List.getElem?_eq_getElem hds)) rfl
      have hk2 : (V1.b.fail (idx l[j].n (g.m + 1)) V1.b.ds[idx l[j].n (g.m + 1)]).k ≤ 10000 + j * 200000000 := hk
      refine W ?_
      rw [hi']
      refine cl' h10 ?_
      rintro _ _ ⟨rfl, rfl⟩
      have h12 := f12 (ga := ga) (gk := gk) (gm := gm) (gv := gv) (gh := gh) (gb := gb) (gs := gs) a2 (by show (V1.b.fail _ _).k < _; omega)
      refine W ?_
      refine cl' h12 ?_
      rintro _ _ ⟨V9, rfl, rfl, hq9⟩
      have hb9 : V9.b.k ≤ (V1.b.fail (idx l[j].n (g.m + 1)) V1.b.ds[idx l[j].n (g.m + 1)]).k + 2000000 := hq9.b
      refine W ?_
      exact w_land rfl (w_round (j + 1, C, V9, L) ⟨by show j + 1 ≤ _; omega, by show j + 1 ≤ 50; omega, a2.asq hq9, by show V9.b.k ≤ 10000 + (j + 1) * 200000000; omega⟩ (by show 50 - (j + 1) < 50 - j; omega) sl_ ent_)
    · have h11 := f11 (ga := ga) (gk := gk) (gm := gm) (gv := gv) (gh := gh) (gb := gb) (gs := gs) (x := l[j].x) (n := l[j].n) (ar := l[j].ar) (s1 := .slice l[j].wa l[j].ws.length l[j].wc) (s2 := .slice l[j].pa l[j].pl l[j].pc) a (by omega)
      refine W ?_
      refine cl' h11 ?_
      rintro _ _ ⟨V2, e, rfl, rfl, hq2⟩
      have a2 := a.asq hq2
      have hkb2 := hq2.b
      have h12 := f12 (ga := ga) (gk := gk) (gm := gm) (gv := gv) (gh := gh) (gb := gb) (gs := gs) a2 (by omega)
      refine W ?_
      refine cl' h12 ?_
      rintro _ _ ⟨V9, rfl, rfl, hq9⟩
      have hb9 := hq9.b
      refine W ?_
      exact w_land rfl (w_round (j + 1, C, V9, L) ⟨by show j + 1 ≤ _; omega, by show j + 1 ≤ 50; omega, a2.asq hq9, by show V9.b.k ≤ 10000 + (j + 1) * 200000000; omega⟩ (by show 50 - (j + 1) < 50 - j; omega) sl_ ent_)
  · rw [decide_eq_false (show ¬ (j : Int) < (l.length : Nat) by omega)]
    refine W ?_
    refine cl' f13 ?_
    rintro _ _ ⟨rfl, rfl⟩
    refine W ?_
    exact fin ⟨_, rfl, rfl, rfl⟩
end
end Go.Proofs.YtnilejkfbcnkkaaGreatDoor.V
end
section
set_option maxRecDepth 100000
set_option maxHeartbeats 1000000
namespace Go.Proofs.YtnilejkfbcnkkaaGreatDoor.V
open Go Go.RowKit Go.ChangeShapes Go.WideShapes Go.Deep

section
variable {H : Type} {enc : TypeId × Value → H} {P : Program} {W : World} {base : Nat} {spare : Nat → Bool} {held : Bool}
theorem u8_of {n : Int} (h : (Lit.int .u8 n).wf = true) : ∃ u : UInt8, n = (u.toNat : Int) := by
  have h1 : 0 ≤ n ∧ n ≤ 255 := by
    simp [Lit.wf, IntKind.min, IntKind.max, IntKind.signed, IntKind.bits] at h; omega
  refine ⟨UInt8.ofNat n.toNat, ?_⟩
  rw [UInt8.toNat_ofNat_of_lt' (by show n.toNat < 256; omega)]
  omega
theorem list_of {α : Type} {p : Nat → α → Prop} : ∀ n : Nat, (∀ i, i < n → ∃ x, p i x) → ∃ l : List α, l.length = n ∧ ∀ i (h : i < l.length), p i l[i] := by
  intro n
  induction n with
  | zero => intro _; exact ⟨[], rfl, fun i h => by simp at h⟩
  | succ n ih =>
    intro h
    obtain ⟨l, hl, hp⟩ := ih fun i hi => h i (by omega)
    obtain ⟨x, hx⟩ := h n (by omega)
    refine ⟨l ++ [x], by simp [hl], fun i hi => ?_⟩
    by_cases e : i < l.length
    · rw [List.getElem_append_left e]; exact hp i e
    · have : i = n := by simp [hl] at hi; omega
      subst this
      rw [List.getElem_append_right (by omega)]
      simpa [hl] using hx
/-- A reading of 64 bytes is of a block. -/
theorem trod_blk {t e : TypeId} {fuel : Nat} {cs : List Value} {x : DataW H × List MemPlace} (hu : P.underlying t = some (.array 64 e)) (he : P.underlying e = some (.int .u8)) (hc : P.cellsOf e = 1) (ht : P.cellsOf t = 64)
    (h : DataW.trod enc P W base spare held fuel t cs = some x) : ∃ b : Blk, cs = bl b := by
  obtain ⟨xs, m, _, _, hl, hxl, hi⟩ := DataW.trod_array hu h
  rw [ht] at hl
  have key : ∀ i, i < 64 → ∃ u : UInt8, cs[i]? = some (.int .u8 (u.toNat : Int)) := by
    intro i hi64
    have h1 := hi i hi64
    rw [hc, Nat.mul_one] at h1
    have hx : xs[i]? = some (xs[i]'(by omega)) := List.getElem?_eq_getElem _
    rw [hx] at h1
    obtain ⟨n, hn, _, wn⟩ := DataW.trod_int he h1
    obtain ⟨u, rfl⟩ := u8_of wn
    refine ⟨u, ?_⟩
    have h2 : ((cs.drop i).take 1)[0]? = some (.int .u8 (u.toNat : Int)) := by rw [hn]; rfl
    simpa using h2
  obtain ⟨l, hll, hp⟩ := list_of (p := fun i (u : UInt8) => cs[i]? = some (.int .u8 (u.toNat : Int))) 64 key
  refine ⟨⟨l.toArray, by simpa using hll⟩, ?_⟩
  apply List.ext_getElem?
  intro i
  by_cases hi64 : i < 64
  · have := hp i (by omega)
    rw [this]
    simp only [bl, bv, Array.toList_map]
    simp [show i < l.length by omega]
  · rw [List.getElem?_eq_none (by omega), List.getElem?_eq_none (by rw [bl_len]; omega)]
/-- A reading of a slice. -/
theorem trod_sl {α : Type} (E : Enc α) {t e : TypeId} {fuel : Nat} {cs : List Value} {x : DataW H × List MemPlace} (hu : P.underlying t = some (.slice e)) (hc : P.cellsOf e = E.sz)
    (dec : ∀ (fuel : Nat) (cs : List Value) (x : DataW H × List MemPlace), DataW.trod enc P W base spare held fuel e cs = some x → ∃ y, cs = E.enc y)
    (h : DataW.trod enc P W base spare held fuel t cs = some x) : ∃ (l : List α) (a : Option Addr) (b o cap : Nat), cs = [.slice a l.length cap] ∧ Sl E W l a b o cap := by
  rcases open_slice hu h with ⟨rfl, _⟩ | ⟨a', len, cap, m, n, D, Pl, rfl, _, hl, hm, hmm, _, hi⟩
  · exact ⟨[], none, 0, 0, 0, rfl, ⟨fun h => by simp at h, fun i h => by simp at h, Nat.le_refl _, Nat.zero_le _⟩⟩
  · have hlm : len ≤ m := by rw [hmm]; split <;> omega
    have key : ∀ i, i < len → ∃ y : α, (∀ j, j < E.sz → W.cell? (a'.add (i * E.sz) |>.add j) = (E.enc y)[j]?) := by
      intro i hi'
      obtain ⟨cs', hc', ht⟩ := hi i (by omega)
      obtain ⟨y, rfl⟩ := dec _ _ _ ht
      obtain ⟨_, hcl, hat⟩ := World.cells?_some hc'
      rw [hc] at hat
      exact ⟨y, hat⟩
    obtain ⟨l, hll, hp⟩ := list_of len key
    subst hll
    have hspot : 0 < l.length → a'.spot = none := by
      intro h0
      have h1 := hp 0 h0 0 E.pos
      have h2 : (E.enc l[0])[0]? = some ((E.enc l[0])[0]'(by rw [E.len]; exact E.pos)) := List.getElem?_eq_getElem _
      rw [h2] at h1
      unfold World.cell? at h1
      split at h1
      · split at h1
        · cases h1
        · rename_i hs
          simp only [Addr.add, Nat.zero_mul, if_true] at hs
          cases hq : a'.spot with
          | none => rfl
          | some _ => simp [hq] at hs
      · cases h1
    refine ⟨l, some a', a'.block, a'.off, cap, rfl, ⟨fun h0 => ?_, fun i hi j u hj => ?_, hl, hm⟩⟩
    · have := hspot h0
      cases a'; simp_all
    · have hs := hspot (by omega)
      have hjl : j < E.sz := by have := (List.getElem?_eq_some_iff.1 hj).1; rwa [E.len] at this
      have h1 := hp i hi j hjl
      rw [hj] at h1
      rw [← h1]
      congr 1
      obtain ⟨b', o', s'⟩ := a'
      simp only at hs
      subst hs
      rw [Addr.add_mid, Addr.add_mid]
end
section
variable {H : Type} {enc : TypeId × Value → H} {W : World} {base : Nat} {spare : Nat → Bool} {held : Bool}
theorem trod_wr {fuel : Nat} {cs : List Value} {x : DataW H × List MemPlace} (h : DataW.trod enc Tryz.prog W base spare held fuel 53 cs = some x) : ∃ y, cs = eWr.enc y := by
  obtain ⟨xs, n, _, _, hl, hxl, hi⟩ := DataW.trod_struct Tryz.underlying53 h
  have c53 : Tryz.prog.cellsOf 53 = 65 := by kernel_rfl
  have c3 : Tryz.prog.cellsOf 3 = 1 := by kernel_rfl
  have c51 : Tryz.prog.cellsOf 51 = 64 := by kernel_rfl
  have c5 : Tryz.prog.cellsOf 5 = 1 := by kernel_rfl
  rw [c53] at hl
  have hx2 : xs.length = 2 := hxl
  have g : ∀ i (h4 : i < 2), xs[i]? = some (xs[i]'(by omega)) := fun i h4 => List.getElem?_eq_getElem _
  have h0 := (hi 0 _ rfl).trans (g 0 (by omega))
  have h1 := (hi 1 _ rfl).trans (g 1 (by omega))
  obtain ⟨a, ha, _, _⟩ := DataW.trod_int Tryz.underlying3 h0
  obtain ⟨b, hb⟩ := trod_blk Tryz.underlying51 Tryz.underlying5 c5 c51 h1
  have ha : (cs.drop 0).take 1 = [Value.int .i64 a] := ha
  have hb : (cs.drop 1).take 64 = bl b := hb
  refine ⟨(a, b), ?_⟩
  show cs = .int .i64 a :: bl b
  clear hi h h0 h1
  cases cs with
  | nil => simp at hl
  | cons c cs =>
    have hl : cs.length = 64 := by simpa using hl
    rw [List.drop_zero, List.take_succ_cons, List.take_zero] at ha
    rw [List.drop_succ_cons, List.drop_zero, List.take_of_length_le (by omega)] at hb
    rw [hb]
    injection ha with ha
    rw [ha]
/-- a slice of what is more than four cells wide does not stand in the block of the sizes -/
theorem ne_zero {α : Type} {E : Enc α} {l : List α} {a : Option Addr} {b o c : Nat} {cs : Array Value} {t : TypeId} {k : Nat × Nat} (h0 : W.heap[0]? = some (.cells cs t k)) (hs : cs.size < E.sz) (h : Sl E W l a b o c) : 0 < l.length → b ≠ 0 := by
  rintro hp rfl
  have hlen := E.len l[0]
  have h1 := h.rd 0 hp (E.sz - 1) ((E.enc l[0])[E.sz - 1]'(by rw [hlen]; have := E.pos; omega)) (List.getElem?_eq_getElem _)
  simp only [World.cell?, h0] at h1
  rw [if_neg (by simp), Array.getElem?_eq_none (by omega)] at h1
  cases h1
theorem trod_act {cs0 : Array Value} {t0 : TypeId} {k0 : Nat × Nat} (hg : W.heap[0]? = some (.cells cs0 t0 k0)) (hs : cs0.size = 4) {fuel : Nat} {cs : List Value} {x : DataW H × List MemPlace} (h : DataW.trod enc Tryz.prog W base spare held fuel 32 cs = some x) : ∃ y, cs = eAc.enc y ∧ ActI.ok W y := by
  obtain ⟨xs, n, _, _, hl, hxl, hi⟩ := DataW.trod_struct Tryz.underlying32 h
  have c32 : Tryz.prog.cellsOf 32 = 5 := by kernel_rfl
  have c53 : Tryz.prog.cellsOf 53 = 65 := by kernel_rfl
  have c3 : Tryz.prog.cellsOf 3 = 1 := by kernel_rfl
  rw [c32] at hl
  have hx5 : xs.length = 5 := hxl
  have g : ∀ i (h4 : i < 5), xs[i]? = some (xs[i]'(by omega)) := fun i h4 => List.getElem?_eq_getElem _
  have h0 := (hi 0 _ rfl).trans (g 0 (by omega))
  have h1 := (hi 1 _ rfl).trans (g 1 (by omega))
  have h2 := (hi 2 _ rfl).trans (g 2 (by omega))
  have h3 := (hi 3 _ rfl).trans (g 3 (by omega))
  have h4 := (hi 4 _ rfl).trans (g 4 (by omega))
  obtain ⟨x1, e0, _, _⟩ := DataW.trod_int Tryz.underlying3 h0
  obtain ⟨x2, e1, _, _⟩ := DataW.trod_int Tryz.underlying3 h1
  obtain ⟨ws, wa, wb, wo, wc, e2, hws⟩ := trod_sl eWr Tryz.underlying29 c53 (fun _ _ _ h => trod_wr h) h2
  obtain ⟨x4, e3, _, _⟩ := DataW.trod_int Tryz.underlying3 h3
  obtain ⟨pl, pa, pb, po, pc, e4, _⟩ := trod_sl eInt Tryz.underlying30 c3 (fun _ _ _ h => by obtain ⟨z, rfl, _, _⟩ := DataW.trod_int Tryz.underlying3 h; exact ⟨z, rfl⟩) h4
  refine ⟨⟨x1, x2, ws, wa, wc, x4, pa, pl.length, pc⟩, ?_, wb, wo, hws, ne_zero hg (by rw [hs]; decide) hws⟩
  have e0 : (cs.drop 0).take 1 = [Value.int .i64 x1] := e0
  have e1 : (cs.drop 1).take 1 = [Value.int .i64 x2] := e1
  have e2 : (cs.drop 2).take 1 = [Value.slice wa ws.length wc] := e2
  have e3 : (cs.drop 3).take 1 = [Value.int .i64 x4] := e3
  have e4 : (cs.drop 4).take 1 = [Value.slice pa pl.length pc] := e4
  show cs = [Value.int .i64 x1, .int .i64 x2, .slice wa ws.length wc, .int .i64 x4, .slice pa pl.length pc]
  clear hi h h0 h1 h2 h3 h4 hws
  obtain ⟨c0, c1, c2, c3, c4, rfl⟩ : ∃ c0 c1 c2 c3 c4, cs = [c0, c1, c2, c3, c4] := by
    match cs, hl with
    | [c0, c1, c2, c3, c4], _ => exact ⟨c0, c1, c2, c3, c4, rfl⟩
  simp at e0 e1 e2 e3 e4
  rw [e0, e1, e2, e3, e4]
/-- the acts that came in, as an argument -/
theorem open_acts {cs0 : Array Value} {t0 : TypeId} {k0 : Nat × Nat} (hg : W.heap[0]? = some (.cells cs0 t0 k0)) (hs : cs0.size = 4) {v : Value} {r : Reach} {b0 : Nat} {d : DataW H} {p : List MemPlace}
    (hv : Value.okWide Tryz.prog W r b0 22 v) (h : DataW.Trod enc Tryz.prog W base spare held 22 v d p) :
    ∃ (l : List ActI) (a : Option Addr) (b o c : Nat), v = .slice a l.length c ∧ Sl eAc W l a b o c ∧ (0 < l.length → b ≠ 0) ∧ ∀ y ∈ l, ActI.ok W y := by
  obtain ⟨a0, len0, cap0, rfl⟩ := okWide_slice Tryz.underlying22 hv
  obtain ⟨fuel, hf⟩ := h
  have c32 : Tryz.prog.cellsOf 32 = 5 := by kernel_rfl
  let E : Enc {y : ActI // ActI.ok W y} := ⟨fun y => eAc.enc y.1, 5, fun _ => rfl, fun y => eAc.one y.1, by omega⟩
  obtain ⟨l, a, b, o, c, e, hl⟩ := trod_sl (spare := spare) (held := held) E Tryz.underlying22 c32 (fun _ _ _ h => by obtain ⟨y, e, hy⟩ := trod_act hg hs h; exact ⟨⟨y, hy⟩, e⟩) hf
  simp [Value.cells] at e
  obtain ⟨rfl, rfl, rfl⟩ := e
  have hl2 : Sl eAc W (l.map (·.1)) a0 b o cap0 :=
    ⟨fun hp => hl.at_ (by simpa using hp), fun i hi => by have h1 := hl.rd i (by simpa using hi); rw [List.getElem_map]; exact h1, by simpa using hl.le, hl.mx⟩
  refine ⟨l.map (·.1), a0, b, o, cap0, by simp, hl2, ne_zero hg (by rw [hs]; decide) hl2, fun y hy => ?_⟩
  obtain ⟨z, _, rfl⟩ := List.mem_map.1 hy
  exact z.2
end

/-! ### From a contract to a call of the row -/
theorem sat_world {W : World} {t : TypeId} {k : Nat × Nat} (h0 : W.heap[0]? = some (.cells [I 8, I 2, I 8, I 8].toArray t k)) :
    let _ : GlK := ⟨t, k⟩
    ∃ B, Sat [glC, inZ W] B ∧ At B W ∧ ∀ i, i < W.heap.size → i ∈ B.map Prod.fst := by
  intro _
  have hsz : 0 < W.heap.size := (Array.getElem?_eq_some_iff.1 h0).1
  refine ⟨(0, .cells [I 8, I 2, I 8, I 8].toArray t k) :: ((List.range' 1 (W.heap.size - 1)).map fun i => (i, W.heap.getD i (.cells [I 8, I 2, I 8, I 8].toArray t k))), ⟨[_], _, rfl, rfl, _, [], (List.append_nil _).symm, ?_, rfl⟩, ⟨?_, ?_⟩, ?_⟩
  · intro i o hi ho
    have hlt := (Array.getElem?_eq_some_iff.1 ho).1
    refine List.mem_map.2 ⟨i, List.mem_range'_1.2 ⟨by omega, by omega⟩, ?_⟩
    rw [Array.getD_eq_getD_getElem?, ho]; rfl
  · intro p hp
    rcases List.mem_cons.1 hp with rfl | hp
    · exact h0
    · obtain ⟨i, hi, rfl⟩ := List.mem_map.1 hp
      have := List.mem_range'_1.1 hi
      show W.heap[i]? = some (W.heap.getD i _)
      rw [Array.getD_eq_getD_getElem?, Array.getElem?_eq_getElem (by omega)]; rfl
  · rw [List.map_cons, List.map_map]
    have e : (Prod.fst ∘ fun i => (i, W.heap.getD i (.cells [I 8, I 2, I 8, I 8].toArray t k))) = id := rfl
    rw [e, List.map_id, List.nodup_cons]
    exact ⟨fun h => by have := List.mem_range'_1.1 h; omega, List.nodup_range'⟩
  · intro i hi
    rw [List.map_cons, List.map_map]
    have e : (Prod.fst ∘ fun i => (i, W.heap.getD i (.cells [I 8, I 2, I 8, I 8].toArray t k))) = id := rfl
    rw [e, List.map_id]
    by_cases h : i = 0
    · exact List.mem_cons.2 (.inl h)
    · exact List.mem_cons.2 (.inr (List.mem_range'_1.2 ⟨by omega, by omega⟩))
/-- a contract that keeps what came in: the call answers true and leaves all old memory as it was -/
theorem calls_of {W : World} {f : FuncId} {args : List Value} {t : TypeId} {k : Nat × Nat} (h0 : W.heap[0]? = some (.cells [I 8, I 2, I 8, I 8].toArray t k))
    (h : let _ : GlK := ⟨t, k⟩; Ct Tryz.prog f args [glC, inZ W] (fun v M => v = .bool true ∧ M = [glC, inZ W])) :
    Calls Tryz.prog f args.toArray W fun e W' => e = .returned (.bool true) ∧ Below W.heap.size W W' := by
  obtain ⟨B, hB, hat, _⟩ := sat_world h0
  refine (h W B hB hat).mono fun e W' => ?_
  rintro ⟨o, L', rfl, ⟨v, rfl, rfl, rfl⟩, B', hB', hst⟩
  refine ⟨rfl, ?_⟩
  obtain ⟨B1, _, rfl, h1, B2, B3, rfl, h2, rfl⟩ := hB'
  have h1 : B1 = [(0, .cells [I 8, I 2, I 8, I 8].toArray t k)] := h1
  subst h1
  refine ⟨hst.os, hst.tape, hst.output, hst.le, fun i hi => ?_⟩
  by_cases hi0 : i = 0
  · subst hi0
    rw [h0]
    exact hst.at_ (0, .cells [I 8, I 2, I 8, I 8].toArray t k) (by simp)
  · have h3 : W.heap[i]? = some W.heap[i] := Array.getElem?_eq_getElem hi
    rw [h3]
    exact hst.at_ (i, W.heap[i]) (by simp only [List.append_nil]; exact List.mem_append_right _ (h2 i _ hi0 h3))
end Go.Proofs.YtnilejkfbcnkkaaGreatDoor.V
end
