/- Proved: what the functions of a list come to, said of the row of its keys; the conditions stand in the statements. -/
import Derived.Test.YtpbpenlceigddaaLruG
import Derived.Test.YtpbpenlceigddaaLruPure
set_option linter.unusedVariables false
set_option linter.unusedSimpArgs false
set_option linter.unnecessarySimpa false
set_option linter.unusedSectionVars false
namespace Go.Proofs.Ytpbpenlceigddaa.Lru
open Go Go.RowKit Go.Proofs.Ytpbpenlceigddaa.Eng

def hpL (gl gm en : Nat) (r : Int) (es : Array MapEntry) (cl : Nat) (gs : List Nat) (f : Nat → Nd) : Hp :=
  [(gl, .cells #[.int .i64 r, .map (some gm), .pointer (some ⟨en, 0, none⟩)] 49 (0, 0)), (gm, .map es cl)] ++ Hn 52 (en :: gs) f
def FK (f : Nat → Nd) (g : Nat) : Int × Bool := ((f g).k, (f g).p)
def FM (f : Nat → Nd) (g : Nat) : Int × Nat := ((f g).k, g)
structure LI (en : Nat) (gs : List Nat) (f : Nat → Nd) (mp : List (Int × Nat)) (es : Array MapEntry) (r : Int) (ks : Ks) : Prop where
  lk : Lk f en gs
  hk : ks = gs.map (FK f)
  mc : MapC mp es
  pm : mp.Perm (gs.map (FM f))
  nd : (ks.map (·.1)).Nodup
  le : (ks.length : Int) ≤ r
def ListS (gl : Nat) (r : Int) (ks : Ks) (H : Hp) : Prop := ∃ gm en es cl mp gs f, H = hpL gl gm en r es cl gs f ∧ LI en gs f mp es r ks

theorem At.below {H0 : Hp} {w w' : World} (h : At H0 w) (b : Below w.heap.size w w') : St w (ids H0) H0 w' := by
  obtain ⟨h1, h2, h3, h4, h5⟩ := b
  refine ⟨fun p hp => ?_, h.2, fun p hp => .inl (List.mem_map_of_mem hp), h1, h2, h3, h4, fun k hk _ => h5 k hk⟩
  rw [h5 p.1 (Array.getElem?_eq_some_iff.1 (h.1 p hp)).1]; exact h.1 p hp
theorem lookM_mem {mp : List (Int × Nat)} {k : Int} {x : Nat} (h : lookM mp k = some x) : (k, x) ∈ mp := by
  unfold lookM at h
  obtain ⟨p, hp, rfl⟩ := Option.map_eq_some_iff.1 h
  have h1 := List.find?_some hp
  have h2 := List.mem_of_find?_eq_some hp
  simp at h1
  rw [← h1]; exact h2
theorem lookM_of {mp : List (Int × Nat)} {k : Int} {x : Nat} (hnd : (mp.map (·.1)).Nodup) (h : (k, x) ∈ mp) : lookM mp k = some x := by
  cases hl : lookM mp k with
  | none => exact absurd rfl (lookM_none.1 hl _ h)
  | some y =>
    have h2 := lookM_mem hl
    obtain ⟨i, hi⟩ := List.getElem?_of_mem h
    obtain ⟨j, hj⟩ := List.getElem?_of_mem h2
    obtain ⟨hi1, hi2⟩ := List.getElem?_eq_some_iff.1 hi
    obtain ⟨hj1, hj2⟩ := List.getElem?_eq_some_iff.1 hj
    have e : (mp.map (·.1))[i]'(by simpa using hi1) = (mp.map (·.1))[j]'(by simpa using hj1) := by simp [hi2, hj2]
    have := (List.getElem_inj hnd).1 e
    subst this
    rw [hi2] at hj2; cases hj2; rfl
theorem lf_lt {f : Nat → Nd} {e : Nat} {gs : List Nat} {i : Nat} : ∀ {j : Nat}, lf f e gs j = some i → i < j
  | 0, h => by cases h
  | j + 1, h => by
    unfold lf at h
    split at h
    · cases h; omega
    · have := lf_lt h; omega
section
variable {en : Nat} {gs : List Nat} {f : Nat → Nd} {mp : List (Int × Nat)} {es : Array MapEntry} {r : Int} {ks : Ks} (h : LI en gs f mp es r ks)
include h
theorem LI.len : ks.length = gs.length := by rw [h.hk, List.length_map]
theorem LI.mlen : mp.length = gs.length := by rw [h.pm.length_eq, List.length_map]
theorem LI.at_ {i : Nat} (hi : i < gs.length) : ks[i]? = some (FK f (W en gs (i + 1))) := by
  rw [h.hk, List.getElem?_map, List.getElem?_eq_getElem hi, W_s en gs i hi]; rfl
theorem LI.mnd : (mp.map (·.1)).Nodup := by
  refine (h.pm.map _).nodup_iff.2 ?_
  have := h.nd
  rw [h.hk, List.map_map] at this
  rw [List.map_map]
  exact this
theorem LI.has {k : Int} {x : Nat} (hl : lookM mp k = some x) : ∃ i, i < gs.length ∧ x = W en gs (i + 1) ∧ (f x).k = k ∧ plc ks k = some i := by
  have h1 := h.pm.mem_iff.1 (lookM_mem hl)
  obtain ⟨g, hg, he⟩ := List.mem_map.1 h1
  cases he
  obtain ⟨i, hi⟩ := List.getElem?_of_mem hg
  obtain ⟨hi1, hi2⟩ := List.getElem?_eq_some_iff.1 hi
  have hw : x = W en gs (i + 1) := by rw [W_s en gs i hi1, hi2]
  refine ⟨i, hi1, hw, rfl, plc_some h.nd (h.at_ hi1) ?_⟩
  rw [← hw]; rfl
theorem LI.miss {k : Int} (hl : lookM mp k = none) : plc ks k = none := by
  refine plc_none.2 fun x hx => ?_
  rw [h.hk] at hx
  obtain ⟨g, hg, rfl⟩ := List.mem_map.1 hx
  exact lookM_none.1 hl (FM f g) (h.pm.mem_iff.2 (List.mem_map_of_mem hg))
theorem LI.key {i : Nat} (hi : i < gs.length) : lookM mp (f (W en gs (i + 1))).k = some (W en gs (i + 1)) := by
  refine lookM_of h.mnd (h.pm.mem_iff.2 ?_)
  have : W en gs (i + 1) ∈ gs := by rw [W_s en gs i hi]; exact List.getElem_mem hi
  exact List.mem_map_of_mem (f := FM f) this
theorem LI.lf : ∀ j, j ≤ gs.length → lf f en gs j = lfK ks j
  | 0, _ => rfl
  | j + 1, hj => by
    unfold Lru.lf lfK
    rw [getD_some (h.at_ (i := j) (by omega)), LI.lf j (by omega)]
    rfl
end
theorem hp_nd {gl gm en : Nat} {r : Int} {es : Array MapEntry} {cl : Nat} {gs : List Nat} {f : Nat → Nd} {w : World} (hat : At (hpL gl gm en r es cl gs f) w) : (en :: gs).Nodup := by
  have h := hat.2
  simp only [hpL, List.map_append, List.map_cons, List.map_nil, Hn.fst, List.cons_append, List.nil_append, List.nodup_cons] at h
  exact List.nodup_cons.2 h.2.2
theorem hp_perm {gl gm en : Nat} {r : Int} {es : Array MapEntry} {cl : Nat} {gs : List Nat} {f : Nat → Nd} {il : List Nat} (h : (en :: gs).Perm il) : (hpL gl gm en r es cl gs f).Perm ([(gl, .cells #[.int .i64 r, .map (some gm), .pointer (some ⟨en, 0, none⟩)] 49 (0, 0)), (gm, .map es cl)] ++ Hn 52 il f) :=
  List.Perm.append_left _ (Hn.perm 52 f h)
theorem er_perm {gs : List Nat} (en : Nat) {i : Nat} (hi : i < gs.length) : gs.Perm (W en gs (i + 1) :: gs.eraseIdx i) := perm_erase (by rw [List.getElem?_eq_getElem hi, W_s en gs i hi])
theorem er_no {en : Nat} {gs : List Nat} {i : Nat} (hnd : (en :: gs).Nodup) (hi : i < gs.length) : (en :: gs.eraseIdx i).Nodup ∧ W en gs (i + 1) ∉ en :: gs.eraseIdx i := by
  have h1 : (en :: gs).Perm (W en gs (i + 1) :: en :: gs.eraseIdx i) := ((er_perm en hi).cons en).trans (List.Perm.swap _ _ _)
  have h2 := List.nodup_cons.1 (h1.nodup_iff.1 hnd)
  exact ⟨h2.2, h2.1⟩
theorem er_sub {en : Nat} {gs : List Nat} {i : Nat} {g : Nat} (h : g ∈ en :: gs.eraseIdx i) : g ∈ en :: gs := by
  rcases List.mem_cons.1 h with rfl | h
  · exact List.mem_cons_self ..
  · exact List.mem_cons_of_mem _ (List.mem_of_mem_eraseIdx h)
def tupO (o : Int × Bool × Int) : Value := .tuple #[.int .i64 o.1, .bool o.2.1, .int .i64 o.2.2]
theorem FK_eq {f f' : Nat → Nd} (hk : ∀ g, (f' g).k = (f g).k) (hp : ∀ g, (f' g).p = (f g).p) (l : List Nat) : l.map (FK f') = l.map (FK f) := List.map_congr_left fun g _ => by unfold FK; rw [hk, hp]
theorem FM_eq {f f' : Nat → Nd} (hk : ∀ g, (f' g).k = (f g).k) (l : List Nat) : l.map (FM f') = l.map (FM f) := List.map_congr_left fun g _ => by unfold FM; rw [hk]

theorem hat2 {gl gm en : Nat} {r : Int} {es : Array MapEntry} {cl : Nat} {gs : List Nat} {f : Nat → Nd} {w : World} (hat : At (hpL gl gm en r es cl gs f) w) : At [(gl, .cells #[.int .i64 r, .map (some gm), .pointer (some ⟨en, 0, none⟩)] 49 (0, 0)), (gm, .map es cl)] w :=
  (hat.st).sat (List.sublist_append_left _ _)
theorem hat1 {gl gm en : Nat} {r : Int} {es : Array MapEntry} {cl : Nat} {gs : List Nat} {f : Nat → Nd} {w : World} (hat : At (hpL gl gm en r es cl gs f) w) : At [(gl, .cells #[.int .i64 r, .map (some gm), .pointer (some ⟨en, 0, none⟩)] 49 (0, 0))] w :=
  (hat.st).sat ((List.nil_sublist _).cons_cons _)
theorem hat3 {gl gm en : Nat} {r : Int} {es : Array MapEntry} {cl : Nat} {gs : List Nat} {f : Nat → Nd} {w : World} (hat : At (hpL gl gm en r es cl gs f) w) : At ([(gl, .cells #[.int .i64 r, .map (some gm), .pointer (some ⟨en, 0, none⟩)] 49 (0, 0))] ++ Hn 52 (en :: gs) f) w :=
  (hat.st).sat (((List.Sublist.refl _).cons _).cons_cons _)
section
variable {gl : Nat} {r : Int} {ks : Ks} {H0 : Hp} (hS : ListS gl r ks H0) (k : Int) (w : World) (hat : At H0 w)
include hS hat
theorem L_touch : Calls Try.prog 9 [.pointer (some ⟨gl, 0, none⟩), .int .i64 k].toArray w fun e w' => ∃ v H', e = .returned v ∧ St w (ids H0) H' w' ∧ v = tupO (touchO r ks k) ∧ ListS gl r (touchK r ks k) H' := by
  obtain ⟨gm, en, es, cl, mp, gs, f, rfl, hI⟩ := hS
  have hnd := hp_nd hat
  cases hl : lookM mp k with
  | some x =>
    obtain ⟨i, hi, rfl, hk, hpl⟩ := hI.has hl
    have hu := unlink_lk hnd hI.lk hi
    obtain ⟨hn1, hx1⟩ := er_no hnd hi
    have hlx := hl
    refine (f9_TouchIs gl gm en r es cl mp (en :: gs) f k (W en gs (i + 1)) (W en gs i) (W en gs (i + 1 + 1)) (W en (gs.eraseIdx i) 1) w hI.mc (W_mem ..) (W_mem ..) (W_mem ..) (hI.lk i (by omega)).2 (hI.lk (i + 1) (by omega)).1 (List.mem_cons_self ..) (er_sub (W_mem ..)) (hu 0 (Nat.zero_le _)).1 hl hat).mono ?_
    rintro e w' ⟨v, H', he, hs, hv, rfl⟩
    have hfk : ∀ g, (frs (unl f (W en gs (i + 1)) (W en gs i) (W en gs (i + 1 + 1))) (W en gs (i + 1)) en (W en (gs.eraseIdx i) 1) g).k = (f g).k := fun g => by rw [frs_k, unl_k]
    have hfp : ∀ g, (frs (unl f (W en gs (i + 1)) (W en gs i) (W en gs (i + 1 + 1))) (W en gs (i + 1)) en (W en (gs.eraseIdx i) 1) g).p = (f g).p := fun g => by rw [frs_p, unl_p]
    have hks : touchK r ks k = (W en gs (i + 1) :: gs.eraseIdx i).map (FK f) := by
      unfold touchK
      rw [hpl]
      simp only
      rw [getD_some (hI.at_ hi), hI.hk, List.map_cons, map_erase]
    have hpk : (touchK r ks k).Perm ks := by rw [hks, hI.hk]; exact ((er_perm en hi).map _).symm
    refine ⟨v, hpL gl gm en r es cl (W en gs (i + 1) :: gs.eraseIdx i) _, he, hs.perm (hp_perm (((er_perm en hi).symm).cons en)), ?_, gm, en, es, cl, mp, _, _, rfl, first_lk hn1 hu hx1, ?_, hI.mc, ?_, ?_, ?_⟩
    · rw [hv]; unfold touchO; rw [hpl]; rfl
    · rw [FK_eq hfk hfp]; exact hks
    · rw [FM_eq hfk]; exact hI.pm.trans ((er_perm en hi).map _)
    · exact ((hpk.map _).nodup_iff).2 hI.nd
    · rw [hpk.length_eq]; exact hI.le
  | none =>
    have hpl := hI.miss hl
    have hlen := hI.len
    have hml := hI.mlen
    have hle := hI.le
    have hkn : k ∉ ks.map (·.1) := fun hm => by
      obtain ⟨x, hx, hxk⟩ := List.mem_map.1 hm
      exact plc_none.1 hpl x hx hxk
    by_cases hlt : (ks.length : Int) < r
    · refine (f9_TouchNew gl gm en r es cl mp (en :: gs) f k (W en gs 1) w hI.mc (List.mem_cons_self ..) (W_mem ..) (hI.lk 0 (Nat.zero_le _)).1 hl (by omega) hat).mono ?_
      rintro e w' ⟨v, H', he, hs, hv, g, es', cl', rfl, hmc, hg⟩
      have hgs : g ∉ gs := fun hm => hg (List.mem_cons_of_mem _ hm)
      have hfg : ∀ g', g' ∈ gs → (frs (putN f g ⟨k, false, .pointer none, .pointer none⟩) g en (W en gs 1) g').k = (f g').k ∧ (frs (putN f g ⟨k, false, .pointer none, .pointer none⟩) g en (W en gs 1) g').p = (f g').p := fun g' hm => by
        rw [frs_k, frs_p, putN_ne _ _ _ (ne_mem hm hgs)]; exact ⟨rfl, rfl⟩
      have hks : touchK r ks k = (k, false) :: ks := by unfold touchK; rw [hpl]; simp only; rw [if_pos hlt]
      refine ⟨v, hpL gl gm en r es' cl' (g :: gs) _, he, hs.perm (hp_perm (List.Perm.swap _ _ _)), ?_, gm, en, es', cl', mp ++ [(k, g)], _, _, rfl, first_lk hnd (lk_congr hI.lk fun g' hm => by rw [putN_ne _ _ _ (ne_mem hm hg)]; exact ⟨rfl, rfl⟩) hg, ?_, hmc, ?_, ?_, ?_⟩
      · rw [hv]; unfold touchO; rw [hpl]; simp only; rw [if_pos hlt]; rfl
      · rw [hks, hI.hk, List.map_cons]
        refine congr (congrArg _ ?_) (List.map_congr_left fun g' hm => ?_)
        · unfold FK; rw [frs_k, frs_p, putN_is]
        · unfold FK; rw [(hfg g' hm).1, (hfg g' hm).2]
      · rw [List.map_cons]
        have e1 : FM (frs (putN f g ⟨k, false, .pointer none, .pointer none⟩) g en (W en gs 1)) g = (k, g) := by unfold FM; rw [frs_k, putN_is]
        have e2 : gs.map (FM (frs (putN f g ⟨k, false, .pointer none, .pointer none⟩) g en (W en gs 1))) = gs.map (FM f) := List.map_congr_left fun g' hm => by unfold FM; rw [(hfg g' hm).1]
        rw [e1, e2]
        exact (List.perm_append_singleton _ _).trans (hI.pm.cons _)
      · rw [hks, List.map_cons]; exact List.nodup_cons.2 ⟨hkn, hI.nd⟩
      · rw [hks, List.length_cons]; omega
    · have hlf := hI.lf gs.length (Nat.le_refl _)
      rw [← hlen] at hlf
      cases hq : lfK ks ks.length with
      | none =>
        rw [hq, hlen] at hlf
        refine (f9_TouchFull gl gm en r es cl mp gs f k w hI.mc hI.lk hl (by omega) hlf hat).mono ?_
        rintro e w' ⟨he, hb⟩
        have hks : touchK r ks k = ks := by unfold touchK; rw [hpl]; simp only; rw [if_neg hlt, hq]
        refine ⟨_, _, he, At.below hat hb, ?_, ?_⟩
        · unfold touchO; rw [hpl]; simp only; rw [if_neg hlt, hq]; rfl
        · rw [hks]; exact ⟨gm, en, es, cl, mp, gs, f, rfl, hI⟩
      | some i =>
        rw [hq, hlen] at hlf
        have hi := lf_lt hlf
        have hu := unlink_lk hnd hI.lk hi
        obtain ⟨hn1, hx1⟩ := er_no hnd hi
        refine (f9_TouchOut gl gm en r es cl mp gs f k i (W en (gs.eraseIdx i) 1) w hI.mc hI.lk hl (by omega) hlf (er_sub (W_mem ..)) (hu 0 (Nat.zero_le _)).1 (hI.key hi) hat).mono ?_
        rintro e w' ⟨v, H', he, hs, hv, g, es', cl', mp', rfl, hmc, hmp, hg⟩
        have hg1 : g ∉ en :: gs.eraseIdx i := fun hm => hg (er_sub hm)
        have hks : touchK r ks k = (k, false) :: ks.eraseIdx i := by unfold touchK; rw [hpl]; simp only; rw [if_neg hlt, hq]
        have hfg : ∀ g', g' ∈ gs.eraseIdx i → (frs (putN (unl f (W en gs (i + 1)) (W en gs i) (W en gs (i + 1 + 1))) g ⟨k, false, .pointer none, .pointer none⟩) g en (W en (gs.eraseIdx i) 1) g').k = (f g').k ∧ (frs (putN (unl f (W en gs (i + 1)) (W en gs i) (W en gs (i + 1 + 1))) g ⟨k, false, .pointer none, .pointer none⟩) g en (W en (gs.eraseIdx i) 1) g').p = (f g').p := fun g' hm => by
          rw [frs_k, frs_p, putN_ne _ _ _ (ne_mem (List.mem_cons_of_mem _ hm) hg1), unl_k, unl_p]; exact ⟨rfl, rfl⟩
        have hpm : (g :: en :: gs).Perm (W en gs (i + 1) :: en :: g :: gs.eraseIdx i) :=
          ((((er_perm en hi).cons en).trans (List.Perm.swap _ _ _)).cons g).trans ((List.Perm.swap _ _ _).trans ((List.Perm.swap _ _ _).cons _))
        refine ⟨v, hpL gl gm en r es' cl' (g :: gs.eraseIdx i) _, he, (hs.perm (H' := [(gl, .cells #[.int .i64 r, .map (some gm), .pointer (some ⟨en, 0, none⟩)] 49 (0, 0)), (gm, .map es' cl')] ++ Hn 52 (W en gs (i + 1) :: en :: g :: gs.eraseIdx i) _) (List.Perm.append_left _ (Hn.perm 52 _ hpm.symm))).drop (List.Sublist.append_left (List.sublist_cons_self _ _) _), ?_, gm, en, es', cl', mp' ++ [(k, g)], _, _, rfl,
          first_lk hn1 (lk_congr hu fun g' hm => by rw [putN_ne _ _ _ (ne_mem hm hg1)]; exact ⟨rfl, rfl⟩) hg1, ?_, hmc, ?_, ?_, ?_⟩
        · rw [hv]; unfold touchO; rw [hpl]; simp only; rw [if_neg hlt, hq]; simp only; rw [getD_some (hI.at_ hi)]; rfl
        · rw [hks, hI.hk, List.map_cons, ← map_erase]
          refine congr (congrArg _ ?_) (List.map_congr_left fun g' hm => ?_)
          · unfold FK; rw [frs_k, frs_p, putN_is]
          · unfold FK; rw [(hfg g' hm).1, (hfg g' hm).2]
        · rw [List.map_cons]
          have e1 : FM (frs (putN (unl f (W en gs (i + 1)) (W en gs i) (W en gs (i + 1 + 1))) g ⟨k, false, .pointer none, .pointer none⟩) g en (W en (gs.eraseIdx i) 1)) g = (k, g) := by unfold FM; rw [frs_k, putN_is]
          have e2 : (gs.eraseIdx i).map (FM (frs (putN (unl f (W en gs (i + 1)) (W en gs i) (W en gs (i + 1 + 1))) g ⟨k, false, .pointer none, .pointer none⟩) g en (W en (gs.eraseIdx i) 1))) = (gs.eraseIdx i).map (FM f) := List.map_congr_left fun g' hm => by unfold FM; rw [(hfg g' hm).1]
          rw [e1, e2]
          have h3 : (((f (W en gs (i + 1))).k, W en gs (i + 1)) :: mp').Perm (FM f (W en gs (i + 1)) :: (gs.eraseIdx i).map (FM f)) := hmp.symm.trans (hI.pm.trans ((er_perm en hi).map _))
          exact (List.perm_append_singleton _ _).trans ((List.Perm.cons_inv h3).cons _)
        · rw [hks, List.map_cons, map_erase]
          exact List.nodup_cons.2 ⟨fun hm => hkn (List.mem_of_mem_eraseIdx hm), hI.nd.sublist (List.eraseIdx_sublist ..)⟩
        · rw [hks, List.length_cons, List.length_eraseIdx_of_lt (by omega)]; omega
theorem L_pin (b : Bool) : Calls Try.prog 13 [.pointer (some ⟨gl, 0, none⟩), .int .i64 k, .bool b].toArray w fun e w' => ∃ v H', e = .returned v ∧ St w (ids H0) H' w' ∧ v = .int .i64 (errK ks k) ∧ ListS gl r (pinK ks k b) H' := by
  obtain ⟨gm, en, es, cl, mp, gs, f, rfl, hI⟩ := hS
  have hnd := hp_nd hat
  cases hl : lookM mp k with
  | some x =>
    obtain ⟨i, hi, rfl, hk, hpl⟩ := hI.has hl
    refine (f13_PinIs gl gm en r es cl mp (en :: gs) f k b (W en gs (i + 1)) w hI.mc (W_mem ..) hl hat).mono ?_
    rintro e w' ⟨v, H', he, hs, hv, rfl⟩
    have hks : pinK ks k b = gs.map (FK (setP f (W en gs (i + 1)) b)) := by
      unfold pinK
      rw [hpl]
      simp only
      rw [getD_some (hI.at_ hi)]
      apply List.ext_getElem?
      intro j
      rw [List.getElem?_set, List.getElem?_map]
      by_cases hij : i = j
      · subst hij
        rw [if_pos rfl, if_pos (by rw [hI.len]; exact hi), List.getElem?_eq_getElem hi, ← W_s en gs i hi]
        simp only [Option.map_some, FK, setP_k, setP_p]
      · rw [if_neg hij, hI.hk, List.getElem?_map]
        cases hj : gs[j]? with
        | none => rfl
        | some g =>
          obtain ⟨hj1, hj2⟩ := List.getElem?_eq_some_iff.1 hj
          have hne : g ≠ W en gs (i + 1) := by
            rintro rfl
            rw [← W_s en gs j hj1] at hj2
            have := W_inj hnd (i := j + 1) (j := i + 1) (by omega) (by omega) hj2
            omega
          simp only [Option.map_some, FK, setP_ne _ _ _ _ hne]
    have hfst : (pinK ks k b).map (·.1) = ks.map (·.1) := by
      rw [hks, hI.hk, List.map_map, List.map_map]
      exact List.map_congr_left fun g _ => setP_k ..
    refine ⟨v, hpL gl gm en r es cl gs (setP f (W en gs (i + 1)) b), he, hs, ?_, gm, en, es, cl, mp, _, _, rfl, lk_congr hI.lk (fun g _ => ⟨setP_a .., setP_b ..⟩), hks, hI.mc, ?_, by rw [hfst]; exact hI.nd, ?_⟩
    · rw [hv]; unfold errK; rw [hpl]
    · rw [FM_eq (fun g => setP_k ..)]; exact hI.pm
    · have : (pinK ks k b).length = ks.length := by have := congrArg List.length hfst; simpa using this
      rw [this]; exact hI.le
  | none =>
    have hpl := hI.miss hl
    refine (f13_PinNo gl gm en r es cl mp k b w hI.mc hl (hat2 hat)).mono ?_
    rintro e w' ⟨he, hb⟩
    refine ⟨_, _, he, At.below hat hb, ?_, ?_⟩
    · unfold errK; rw [hpl]
    · unfold pinK; rw [hpl]; exact ⟨gm, en, es, cl, mp, gs, f, rfl, hI⟩
theorem L_drop : Calls Try.prog 15 [.pointer (some ⟨gl, 0, none⟩), .int .i64 k].toArray w fun e w' => ∃ v H', e = .returned v ∧ St w (ids H0) H' w' ∧ v = .int .i64 (errK ks k) ∧ ListS gl r (dropK ks k) H' := by
  obtain ⟨gm, en, es, cl, mp, gs, f, rfl, hI⟩ := hS
  have hnd := hp_nd hat
  cases hl : lookM mp k with
  | some x =>
    obtain ⟨i, hi, rfl, hk, hpl⟩ := hI.has hl
    have hu := unlink_lk hnd hI.lk hi
    have hlen := hI.len
    have hle := hI.le
    refine (f15_DropIs gl gm en r es cl mp (en :: gs) f k (W en gs (i + 1)) (W en gs i) (W en gs (i + 1 + 1)) w hI.mc (W_mem ..) (W_mem ..) (W_mem ..) (hI.lk i (by omega)).2 (hI.lk (i + 1) (by omega)).1 hl (hI.key hi) hat).mono ?_
    rintro e w' ⟨v, H', he, hs, hv, es', cl', mp', rfl, hmc, hmp⟩
    have hks : dropK ks k = ks.eraseIdx i := by unfold dropK; rw [hpl]
    have hpm : (en :: gs).Perm (W en gs (i + 1) :: en :: gs.eraseIdx i) := ((er_perm en hi).cons en).trans (List.Perm.swap _ _ _)
    have hfk : ∀ g, (unl f (W en gs (i + 1)) (W en gs i) (W en gs (i + 1 + 1)) g).k = (f g).k := fun g => unl_k ..
    refine ⟨v, hpL gl gm en r es' cl' (gs.eraseIdx i) _, he, (hs.perm (H' := [(gl, .cells #[.int .i64 r, .map (some gm), .pointer (some ⟨en, 0, none⟩)] 49 (0, 0)), (gm, .map es' cl')] ++ Hn 52 (W en gs (i + 1) :: en :: gs.eraseIdx i) _) (List.Perm.append_left _ (Hn.perm 52 _ hpm.symm))).drop (List.Sublist.append_left (List.sublist_cons_self _ _) _), ?_, gm, en, es', cl', mp', _, _, rfl, hu, ?_, hmc, ?_, ?_, ?_⟩
    · rw [hv]; unfold errK; rw [hpl]
    · rw [FK_eq hfk (fun g => unl_p ..), hks, hI.hk, map_erase]
    · rw [FM_eq hfk]
      have h3 : (((f (W en gs (i + 1))).k, W en gs (i + 1)) :: mp').Perm (FM f (W en gs (i + 1)) :: (gs.eraseIdx i).map (FM f)) := hmp.symm.trans (hI.pm.trans ((er_perm en hi).map _))
      exact List.Perm.cons_inv h3
    · rw [hks, map_erase]; exact hI.nd.sublist (List.eraseIdx_sublist ..)
    · rw [hks, List.length_eraseIdx_of_lt (by omega)]; omega
  | none =>
    have hpl := hI.miss hl
    refine (f15_DropNo gl gm en r es cl mp k w hI.mc hl (hat2 hat)).mono ?_
    rintro e w' ⟨he, hb⟩
    refine ⟨_, _, he, At.below hat hb, ?_, ?_⟩
    · unfold errK; rw [hpl]
    · unfold dropK; rw [hpl]; exact ⟨gm, en, es, cl, mp, gs, f, rfl, hI⟩
theorem L_has : Calls Try.prog 14 [.pointer (some ⟨gl, 0, none⟩), .int .i64 k].toArray w fun e w' => e = .returned (.bool (hasK ks k)) ∧ Below w.heap.size w w' := by
  obtain ⟨gm, en, es, cl, mp, gs, f, rfl, hI⟩ := hS
  cases hl : lookM mp k with
  | some x =>
    obtain ⟨i, hi, rfl, hk, hpl⟩ := hI.has hl
    have := f14_HasIs gl gm en r es cl mp k _ w hI.mc hl (hat2 hat)
    unfold hasK; rw [hpl]; exact this
  | none =>
    have hpl := hI.miss hl
    have := f14_HasNo gl gm en r es cl mp k w hI.mc hl (hat2 hat)
    unfold hasK; rw [hpl]; exact this
theorem L_pnd : Calls Try.prog 16 [.pointer (some ⟨gl, 0, none⟩), .int .i64 k].toArray w fun e w' => e = .returned (.bool (pndK ks k)) ∧ Below w.heap.size w w' := by
  obtain ⟨gm, en, es, cl, mp, gs, f, rfl, hI⟩ := hS
  cases hl : lookM mp k with
  | some x =>
    obtain ⟨i, hi, rfl, hk, hpl⟩ := hI.has hl
    have := f16_PinnedIs gl gm en r es cl mp (en :: gs) f k _ w hI.mc (W_mem ..) hl hat
    unfold pndK; rw [hpl]; simp only; rw [getD_some (hI.at_ hi)]; exact this
  | none =>
    have hpl := hI.miss hl
    have := f16_PinnedNo gl gm en r es cl mp k w hI.mc hl (hat2 hat)
    unfold pndK; rw [hpl]; exact this
omit k
theorem L_keys (h64 : r ≤ 64) : Calls Try.prog 11 [.pointer (some ⟨gl, 0, none⟩)].toArray w fun e w' => ∃ v H', e = .returned v ∧ St w (fun _ => False) H' w' ∧ ∃ a g2 cap, v = .slice a (keyK ks).length cap ∧ OwnV eInt 3 (keyK ks) a g2 cap H' := by
  obtain ⟨gm, en, es, cl, mp, gs, f, rfl, hI⟩ := hS
  have hlen := hI.len
  have hle := hI.le
  have hk : keyK ks = kys f gs gs.length := by
    unfold keyK kys
    rw [hI.hk, List.map_map, List.take_length]; rfl
  rw [hk]
  exact f11_Keys gl gm en r gs f w hI.lk (by omega) (hat3 hat)
theorem L_room : Calls Try.prog 20 [.pointer (some ⟨gl, 0, none⟩)].toArray w fun e w' => e = .returned (.int .i64 r) ∧ Below w.heap.size w w' := by
  obtain ⟨gm, en, es, cl, mp, gs, f, rfl, hI⟩ := hS
  exact f20_Room gl gm en r w (hat1 hat)
end
theorem L_new (n : Int) (w : World) (h1 : 1 ≤ n) (h64 : n ≤ 64) : Calls Try.prog 8 [.int .i64 n].toArray w fun e w' => ∃ v H', e = .returned v ∧ St w (fun _ => False) H' w' ∧ ∃ gl, v = .tuple #[.pointer (some ⟨gl, 0, none⟩), .int .i64 0] ∧ ListS gl n [] H' := by
  refine (f8_New n w h1 h64).mono ?_
  rintro e w' ⟨v, H', he, hs, gl, gm, en, hv, rfl⟩
  refine ⟨v, _, he, hs, gl, hv, gm, en, #[], 0, [], [], fun _ => ⟨0, false, PP en, PP en⟩, rfl, ?_, rfl, MapC.nil, List.Perm.refl _, List.nodup_nil, by simp; omega⟩
  intro i hi
  simp only [List.length_nil, Nat.le_zero] at hi
  subst hi
  exact ⟨rfl, rfl⟩
theorem ListS.le {gl : Nat} {r : Int} {ks : Ks} {H : Hp} (h : ListS gl r ks H) : (ks.length : Int) ≤ r ∧ (ks.map (·.1)).Nodup := by
  obtain ⟨gm, en, es, cl, mp, gs, f, rfl, hI⟩ := h
  exact ⟨hI.le, hI.nd⟩
end Go.Proofs.Ytpbpenlceigddaa.Lru
