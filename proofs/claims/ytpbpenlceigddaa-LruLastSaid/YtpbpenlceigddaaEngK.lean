/- Proved: as EngH, where a quiet operation need stay quiet only until one of the others that is bound to come behind it; the conditions stand in the statements. -/
import Derived.Test.YtpbpenlceigddaaEngH
set_option linter.unusedVariables false
set_option linter.unusedSimpArgs false
namespace Go.Proofs.Ytpbpenlceigddaa.Eng
open Go Go.RowKit

def keepK (l : List Oper) (o : Oper) (x : Oper × Regs × Value) : Bool := match x.1.dst with
  | some d => !(o.after.any fun e => Region.binds .any e && dstAt l e.on == some d)
  | none => true
section
variable (P : Program) (n : Nat) (w0 : World) (S : Nat → Prop)
def tailK (ops : Array Oper) (l : List Oper) (acc : List (Oper × Regs × Value)) (Q : Exit → Regs → Hp → Prop) : List Nat → Regs → Hp → Prop
  | [], R, H => Q .normal R H
  | i :: is, R, H => ∃ o, l[i]? = some o ∧ opsG P n w0 S ops (fun e R' H' => e = .normal ∧ allQ P w0 S ops H' (acc.filter (keepK l o)) ∧ tailK ops l acc Q is R' H') [o] R H
end
section
variable {P : Program} {n : Nat} {w0 : World} {S : Nat → Prop} {H : Hp}
/-- THE RULE. -/
theorem c_drawK {l : List Oper} {id : Nat} {Q : Exit → Regs → Hp → Prop} {R : Regs} (hds tl el : List Nat) (hm : P.follows .mixedOrders = true) (hck : (drawOkF l hds tl el && l.all (dstOk n)) = true)
    (h : quietF P w0 S l.toArray H l el hds R [] fun R' acc => tailK P n w0 S l.toArray l acc Q tl R' H) : codeG P n w0 S (.region id l.toArray true) Q R H := by
  simp only [Bool.and_eq_true] at hck
  obtain ⟨hck, hdst⟩ := hck
  have ok := DrawOkF.of hck
  have hdst : ∀ o ∈ l, dstOk n o = true := fun o ho => List.all_eq_true.1 hdst o ho
  obtain ⟨v, Ri, R', acc, hK, _, hq, f1, f2, f3, f4⟩ := quietF_vals hds R [] _ h ok.srt (fun i j d hi hj hne hd => ok.uniq i j d hi (ok.hlt j hj) hne hd)
  intro a w ha hw
  refine wp_region_any hm ?_
  let ops := l.toArray
  have hops : ∀ i : Nat, ops[i]? = l[i]? := fun i => by simp [ops]
  have hsize : ops.size = l.length := by simp [ops]
  have lt_of : ∀ {i : Nat} {o : Oper}, l[i]? = some o → i < l.length := fun h => (List.getElem?_eq_some_iff.1 h).1
  have dAt : ∀ {i : Nat} {o : Oper}, l[i]? = some o → dstAt l i = o.dst := fun h => by simp [dstAt, h]
  have flip : ∀ {listed : Array Bool} {i : Nat}, listed.size = ops.size → i < l.length → (listed.getD i false = true ↔ listed.getD i true = true) := by
    intro listed i hs hi
    have : i < listed.size := by omega
    simp [this]
  let I (listed : Array Bool) (a : Act) (w : World) : Prop := listed.size = ops.size ∧ ∃ k af Rf Rc Hk, k ≤ tl.length ∧ Rep n af Rf ∧ Rep n a Rc ∧ St w0 S Hk w ∧
    (∀ (j t : Nat), tl[j]? = some t → (listed.getD t false = true ↔ j < k)) ∧
    (∀ (i : Nat) (o : Oper), l[i]? = some o → listed.getD i false = true → ∀ e ∈ o.after, Region.binds .any e = true → listed.getD e.on false = true) ∧
    (∀ i ∈ hds, listed.getD i false = false → ∃ o, l[i]? = some o ∧ qY P w0 S Hk ops o (Ri i) (v i)) ∧
    tailK P n w0 S ops l acc Q (tl.drop k) Rf Hk ∧
    (∀ i ∈ hds, listed.getD i false = true → ∀ d, dstAt l i = some d → Rc d = v i) ∧ (∀ i ∈ hds, ∀ d, dstAt l i = some d → Rf d = v i) ∧
    (∀ d, (∀ i ∈ hds, dstAt l i ≠ some d) → Rc d = Rf d) ∧
    (∀ d, (∀ i ∈ hds, dstAt l i ≠ some d) → (∀ (j t : Nat), j < k → tl[j]? = some t → dstAt l t ≠ some d) → Rf d = R d)
  refine wpAny_inv I (fun _ _ _ h => h.1) ?_ ?_ _ _ _ _ ?_ ?_
  · rintro listed a w i ⟨hs, k, af, Rf, Rc, Hk, hk, hrf, hrc, hst, htl, hcl, hqy, htail, hv1, hv2, hv3, hv4⟩ hi
    obtain ⟨hun, o, ho, haft⟩ := mem_ready.1 hi
    rw [hops] at ho
    have hil := lt_of ho
    have hsi : i < listed.size := by omega
    have hunf : listed.getD i false = false := by
      cases hx : listed.getD i false with
      | false => rfl
      | true => rw [(flip hs hil).1 hx] at hun; cases hun
    have aft : ∀ {j}, Edge o j → listed.getD j false = true := fun ⟨e, he, hb, hon⟩ => hon ▸ haft e he hb
    have closed' : ∀ (i' : Nat) (o' : Oper), l[i']? = some o' → (listed.setIfInBounds i true).getD i' false = true → ∀ e ∈ o'.after, Region.binds .any e = true → (listed.setIfInBounds i true).getD e.on false = true := by
      intro i' p hp hl e he hb
      rw [getD_set' _ _ _ hsi] at hl ⊢
      split
      · rfl
      · by_cases h1 : i = i'
        · subst h1
          obtain rfl : p = o := Option.some.inj (hp.symm.trans ho)
          exact haft e he hb
        · rw [if_neg h1] at hl
          exact hcl i' p hp hl e he hb
    unfold wpOp
    rw [hops, ho]
    simp only
    rcases ok.part i hil with ⟨hih, hit⟩ | ⟨hit, hih⟩
    · -- a quiet one
      obtain ⟨o', ho', hqi⟩ := hqy i hih hunf
      obtain rfl : o' = o := Option.some.inj (ho'.symm.trans ho)
      have isHead : ∀ j ∈ hds, ∀ d, j < i → Edge o' j → dstAt l j = some d → Rc d = Ri i d := by
        intro j hj d hji hE hd
        rw [hv1 j hj (aft hE) d hd, f2 i hih j hj d hji hd]
      have hop : ∀ x ∈ o'.op.operands.toList, ev Rc x = ev (Ri i) x := by
        intro x hx
        cases x with
        | tmp d =>
          have hm : d ∈ tmpsOf o' := List.mem_filterMap.2 ⟨_, hx, rfl⟩
          show Rc d = Ri i d
          by_cases hh : ∃ j ∈ hds, dstAt l j = some d
          · obtain ⟨j, hj, hd⟩ := hh
            obtain ⟨hji, hE⟩ := ok.dataH i j o' d ho hj hd hm
            exact isHead j hj d hji hE hd
          · have hn : ∀ j ∈ hds, dstAt l j ≠ some d := fun j hj hd => hh ⟨j, hj, hd⟩
            rw [f1 i hih d (fun j hj _ => hn j hj), hv3 d hn, hv4 d hn]
            intro j t hjk htj hdt
            have htl' : t < l.length := ok.tlt t (List.mem_of_getElem? htj)
            have hdt' : (l[t]'htl').dst = some d := by rw [← dAt (List.getElem?_eq_getElem htl')]; exact hdt
            have := ok.dataT i t o' _ d ho (List.getElem?_eq_getElem htl') hih (List.mem_of_getElem? htj) hdt' hm
            obtain ⟨e, he, hb, hon⟩ := this
            have := hcl t _ (List.getElem?_eq_getElem htl') ((htl j t htj).2 hjk) e he hb
            rw [hon, hunf] at this
            cases this
        | _ => rfl
      have hexec : execOp (ev Rc) o' = execOp (ev (Ri i)) o' := execOp_congr (ok.sel o' (List.mem_of_getElem? ho)) hop
      have hwant : Region.wanted o' (yieldedR ops Rc) = Region.wanted o' (yieldedR ops (Ri i)) := by
        unfold Region.wanted
        cases hg : o'.guard with
        | none => rfl
        | some gb =>
          obtain ⟨g, b⟩ := gb
          obtain ⟨hgh, hgi, hE⟩ := ok.guard i o' g b ho hg
          have hyy : yieldedR ops Rc g = yieldedR ops (Ri i) g := by
            unfold yieldedR
            have e9 : (ops[g]?).bind (·.dst) = dstAt l g := by rw [hops]; rfl
            rw [e9]
            cases hd : dstAt l g with
            | none => rfl
            | some d => simp only; rw [isHead g hgh d hgi hE hd]
          simp only [hyy]
      have next : ∀ w', St w0 S Hk w' → I (listed.setIfInBounds i true) (a.put o'.dst (v i)) w' := by
        intro w' hw'
        refine ⟨by simp [hs], k, af, Rf, _, Hk, hk, hrf, hrc.put _ (hdst o' (List.mem_of_getElem? ho)), hw', ?_, closed', ?_, htail, ?_, hv2, ?_, hv4⟩
        · intro j t htj
          rw [getD_set' _ _ _ hsi, if_neg (fun (e : i = t) => hit (e ▸ List.mem_of_getElem? htj))]
          exact htl j t htj
        · intro i' hi' hl
          rw [getD_set' _ _ _ hsi] at hl
          by_cases h1 : i = i'
          · simp [h1] at hl
          · rw [if_neg h1] at hl; exact hqy i' hi' hl
        · intro i' hi' hl d hd
          rw [getD_set' _ _ _ hsi] at hl
          by_cases h1 : i = i'
          · subst h1
            exact put_eq (by rw [← dAt ho]; exact hd)
          · rw [if_neg h1] at hl
            rw [put_ne (by rw [← dAt ho]; exact fun e => ok.uniq i i' d hih (ok.hlt i' hi') h1 e hd)]
            exact hv1 i' hi' hl d hd
        · intro d hd
          rw [put_ne (by rw [← dAt ho]; exact hd i hih)]
          exact hv3 d hd
      rw [hrc.yielded ops, hwant]
      rcases hqi with ⟨hw1, hyv⟩ | ⟨hw1, hyv⟩
      · rw [if_pos hw1]
        left
        have h1 := hyv w hst
        unfold Oper.wp
        rw [hrc.ev, hexec]
        generalize (execOp (ev (Ri i)) o').run P w = r at h1
        cases r with
        | ok x w' =>
          cases x <;> simp only [Oper.quietUpon] at h1 <;> simp only [Oper.upon]
          case value u => obtain ⟨rfl, rfl⟩ := h1; exact next _ hst
          case skip => obtain ⟨rfl, h2⟩ := h1; rw [← h2]; exact next _ hst
          case enter f args =>
            obtain ⟨rfl, hc⟩ := h1
            exact hc.mono fun e w'' ⟨he, hs'⟩ => by subst he; exact next _ hs'
        | halt x w' => simp only [Oper.quietUpon] at h1
      · rw [if_neg (by simp [hw1]), ← hyv]
        exact next _ hst
    · -- the next one of the others
      obtain ⟨j, htj⟩ := List.getElem?_of_mem hit
      have hjk : ¬ j < k := fun h => by rw [(htl j i htj).2 h] at hunf; cases hunf
      have hjk' : j = k := by
        rcases Nat.lt_or_ge k j with hgt | hle
        · exfalso
          have hj1 : j - 1 < tl.length := by have := (List.getElem?_eq_some_iff.1 htj).1; omega
          have hE := ok.chain (j - 1) tl[j - 1] i o (List.getElem?_eq_getElem hj1) (by rw [show j - 1 + 1 = j by omega]; exact htj) ho
          have := (htl (j - 1) _ (List.getElem?_eq_getElem hj1)).1 (aft hE)
          omega
        · omega
      subst hjk'
      have hjl : j < tl.length := (List.getElem?_eq_some_iff.1 htj).1
      have hdr : tl.drop j = i :: tl.drop (j + 1) := by
        rw [List.drop_eq_getElem_cons hjl]
        congr 1
        exact (List.getElem?_eq_some_iff.1 htj).2
      rw [hdr] at htail
      obtain ⟨o', ho', hop1⟩ := htail
      obtain rfl : o' = o := Option.some.inj (ho'.symm.trans ho)
      have hop : ∀ x ∈ o'.op.operands.toList, ev Rc x = ev Rf x := by
        intro x hx
        cases x with
        | tmp d =>
          have hm : d ∈ tmpsOf o' := List.mem_filterMap.2 ⟨_, hx, rfl⟩
          show Rc d = Rf d
          by_cases hh : ∃ i' ∈ hds, dstAt l i' = some d
          · obtain ⟨i', hi', hd⟩ := hh
            obtain ⟨_, hE⟩ := ok.dataH i i' o' d ho hi' hd hm
            rw [hv1 i' hi' (aft hE) d hd, hv2 i' hi' d hd]
          · exact hv3 d fun i' hi' hd => hh ⟨i', hi', hd⟩
        | _ => rfl
      have hwant : Region.wanted o' (yieldedR ops Rc) = Region.wanted o' (yieldedR ops Rf) := by
        unfold Region.wanted
        cases hg : o'.guard with
        | none => rfl
        | some gb =>
          obtain ⟨g, b⟩ := gb
          obtain ⟨hgh, hgi, hE⟩ := ok.guard i o' g b ho hg
          have hyy : yieldedR ops Rc g = yieldedR ops Rf g := by
            unfold yieldedR
            have e9 : (ops[g]?).bind (·.dst) = dstAt l g := by rw [hops]; rfl
            rw [e9]
            cases hd : dstAt l g with
            | none => rfl
            | some d => simp only; rw [hv1 g hgh (aft hE) d hd, hv2 g hgh d hd]
          simp only [hyy]
      refine step_one (Q' := fun R' H' => allQ P w0 S ops H' (acc.filter (keepK l o')) ∧ tailK P n w0 S ops l acc Q (tl.drop (j + 1)) R' H') hrf hrc (ok.sel o' (List.mem_of_getElem? ho)) hop hwant (hop1 af w hrf hst) ?_
      rintro u w' R2 H2 hr2 hs2 ⟨hall, htail2⟩
      have hd1 : dstOk n o' = true := hdst o' (List.mem_of_getElem? ho)
      have e2 : R2 = Eng.put Rf o'.dst u := Rep.one hr2 (hrf.put u hd1)
      subst e2
      have nd : ∀ {j' t' : Nat}, tl[j']? = some t' → t' = i → j' = j := fun h1 h2 => by
        subst h2
        exact ((List.getElem?_inj (List.getElem?_eq_some_iff.1 h1).1 ok.nd).1 (h1.trans htj.symm))
      refine ⟨by simp [hs], j + 1, _, _, _, H2, hjl, hr2, hrc.put u hd1, hs2, ?_, closed', ?_, htail2, ?_, ?_, ?_, ?_⟩
      · intro j' t' htj'
        rw [getD_set' _ _ _ hsi]
        by_cases h1 : i = t'
        · rw [if_pos h1]
          have := nd htj' h1.symm
          simp [this]
        · rw [if_neg h1, htl j' t' htj']
          constructor
          · intro h; omega
          · intro h
            rcases Nat.lt_or_ge j' j with h2 | h2
            · exact h2
            · exfalso
              have : j' = j := by omega
              subst this
              exact h1 (Option.some.inj (htj.symm.trans htj'))
      · intro i' hi' hl
        rw [getD_set' _ _ _ hsi] at hl
        have hl : listed.getD i' false = false := by
          by_cases h1 : i = i'
          · simp [h1] at hl
          · rwa [if_neg h1] at hl
        have hne : i' ∉ el := by
          intro hel
          have key : ∀ m x, l.length - x ≤ m → x ∈ el → listed.getD x false = true := by
            intro m
            induction m with
            | zero =>
              intro x hx hxe
              obtain ⟨y, _, h1, h2, _⟩ := ok.early x hxe
              omega
            | succ m ih =>
              intro x hx hxe
              obtain ⟨y, p, h1, h2, h3, hp, e, he, hb, hon⟩ := ok.early x hxe
              rcases h3 with h3 | h3
              · have hy0 : tl[0]? = some y := by rw [← List.head?_eq_getElem?]; exact h3
                by_cases h0 : j = 0
                · subst h0
                  obtain rfl : i = y := Option.some.inj (htj.symm.trans hy0)
                  obtain rfl : p = o' := Option.some.inj (hp.symm.trans ho)
                  exact hon ▸ haft e he hb
                · exact hon ▸ hcl y p hp ((htl 0 y hy0).2 (by omega)) e he hb
              · exact hon ▸ hcl y p hp (ih y (by omega) h3) e he hb
          rw [key _ i' (Nat.le_refl _) hel] at hl
          cases hl
        obtain ⟨p, hp, _, hac⟩ := hq i' hi'
        refine ⟨p, hp, allQ_mem hall _ (List.mem_filter.2 ⟨hac hne, ?_⟩)⟩
        show keepK l o' (p, Ri i', v i') = true
        unfold keepK
        cases hd : p.dst with
        | none => rfl
        | some d =>
          show (!(o'.after.any fun e => Region.binds .any e && dstAt l e.on == some d)) = true
          cases hx : o'.after.any fun e => Region.binds .any e && dstAt l e.on == some d with
          | false => rfl
          | true =>
            exfalso
            obtain ⟨e, he, hb⟩ := Array.any_eq_true'.1 hx
            simp only [Bool.and_eq_true, beq_iff_eq] at hb
            have hlt := ok.back i o' ho e he hb.1
            by_cases h1 : i' = e.on
            · have := haft e he hb.1
              rw [← h1, hl] at this
              cases this
            · exact ok.uniq i' e.on d hi' (by omega) h1 (by rw [dAt hp]; exact hd) hb.2
      · intro i' hi' hl d hd
        rw [getD_set' _ _ _ hsi] at hl
        have h1 : i ≠ i' := fun e => hih (e ▸ hi')
        rw [if_neg h1] at hl
        rw [put_ne (by rw [← dAt ho]; exact fun e => ok.uniq i' i d hi' hil (Ne.symm h1) hd e)]
        exact hv1 i' hi' hl d hd
      · intro i' hi' d hd
        have h1 : i ≠ i' := fun e => hih (e ▸ hi')
        rw [put_ne (by rw [← dAt ho]; exact fun e => ok.uniq i' i d hi' hil (Ne.symm h1) hd e)]
        exact hv2 i' hi' d hd
      · intro d hd
        by_cases h1 : o'.dst = some d
        · rw [put_eq h1, put_eq h1]
        · rw [put_ne h1, put_ne h1]; exact hv3 d hd
      · intro d hd hn
        rw [put_ne (by rw [← dAt ho]; exact hn j i (by omega) htj)]
        exact hv4 d hd fun j' t' h1 h2 => hn j' t' (by omega) h2
  · rintro listed a w ⟨hs, k, af, Rf, Rc, Hk, hk, hrf, hrc, hst, htl, hcl, hqy, htail, hv1, hv2, hv3, hv4⟩ he
    have hall : ∀ k, k < l.length → listed.getD k true = true := by
      intro k
      induction k using Nat.strongRecOn with
      | _ k ih =>
        intro hk
        cases hx : listed.getD k true with
        | true => rfl
        | false =>
          exfalso
          have : k ∈ Region.ready .any ops listed := mem_ready.2 ⟨hx, l[k], by rw [hops]; exact List.getElem?_eq_getElem hk, fun e he hb => by
            have hlt := ok.back k _ (List.getElem?_eq_getElem hk) e he hb
            exact (flip hs (by omega)).2 (ih e.on hlt (by omega))⟩
          rw [he] at this
          cases this
    have hkl : k = tl.length := by
      rcases Nat.lt_or_ge k tl.length with h1 | h1
      · have h2 := ok.tlt tl[k] (List.getElem_mem h1)
        have := (htl k tl[k] (List.getElem?_eq_getElem h1)).1 ((flip hs h2).2 (hall _ h2))
        omega
      · omega
    rw [hkl, List.drop_length] at htail
    have e1 : Rc = Rf := by
      funext d
      by_cases hh : ∃ i ∈ hds, dstAt l i = some d
      · obtain ⟨i, hi, hd⟩ := hh
        rw [hv1 i hi ((flip hs (ok.hlt i hi)).2 (hall i (ok.hlt i hi))) d hd, hv2 i hi d hd]
      · exact hv3 d fun i hi hd => hh ⟨i, hi, hd⟩
    subst e1
    exact ⟨_, _, hrc, hst, htail⟩
  · have hun : ∀ i, (Array.replicate ops.size false).getD i false = false := by
      intro i
      rw [Array.getD_eq_getD_getElem?, Array.getElem?_replicate]
      split <;> rfl
    obtain ⟨af, haf⟩ := ha.fill (R' := R') (by
      intro t ht
      rw [f4 t, ha.undef ht]
      intro j hj hd
      have hjl := ok.hlt j hj
      have h1 := hdst _ (List.getElem_mem hjl)
      have h2 : (l[j]).dst = some t := by rw [← dAt (List.getElem?_eq_getElem hjl)]; exact hd
      unfold dstOk at h1
      rw [h2] at h1
      have h3 : t < n := by simpa using h1
      omega)
    refine ⟨Array.size_replicate, 0, af, R', R, H, Nat.zero_le _, haf, ⟨ha.size, ha.defers, ha.get⟩, hw.drew, ?_, ?_, ?_, hK, ?_, f3, ?_, ?_⟩
    · intro j t _; rw [hun]; simp
    · intro i o _ hl; rw [hun] at hl; cases hl
    · intro i hi _; obtain ⟨o, ho, hy, _⟩ := hq i hi; exact ⟨o, ho, hy⟩
    · intro i hi hl; rw [hun] at hl; cases hl
    · intro d hd; rw [f4 d hd]
    · intro d hd _; exact f4 d hd
  · exact Nat.le_trans List.countP_le_length (by rw [List.length_range]; exact Nat.le_refl _)


section
variable {ops : Array Oper} {l : List Oper} {is : List Nat} {i : Nat} {R : Regs} {acc : List (Oper × Regs × Value)} {Q : Exit → Regs → Hp → Prop} {o : Oper}
theorem tk_nil (h : Q .normal R H) : tailK P n w0 S ops l acc Q [] R H := h
theorem tk_step (ho : l[i]? = some o) (h : opsG P n w0 S ops (fun e R' H' => e = .normal ∧ allQ P w0 S ops H' (acc.filter (keepK l o)) ∧ tailK P n w0 S ops l acc Q is R' H') [o] R H) : tailK P n w0 S ops l acc Q (i :: is) R H := ⟨o, ho, h⟩
theorem allQ_nil {ops : Array Oper} {l : List Oper} {o : Oper} : allQ P w0 S ops H ([].filter (keepK l o)) := trivial
theorem allQ_no {ops : Array Oper} {l : List Oper} {o : Oper} {x : Oper × Regs × Value} {acc : List (Oper × Regs × Value)} (hk : keepK l o x = false) (h : allQ P w0 S ops H (acc.filter (keepK l o))) : allQ P w0 S ops H ((x :: acc).filter (keepK l o)) := by
  rw [List.filter_cons_of_neg (by rw [hk]; decide)]; exact h
theorem allQ_yes {ops : Array Oper} {l : List Oper} {o : Oper} {x : Oper × Regs × Value} {acc : List (Oper × Regs × Value)} (hq : qY P w0 S H ops x.1 x.2.1 x.2.2) (h : allQ P w0 S ops H (acc.filter (keepK l o))) : allQ P w0 S ops H ((x :: acc).filter (keepK l o)) := by
  rw [List.filter_cons]
  split
  · exact ⟨hq, h⟩
  · exact h
end
end
end Go.Proofs.Ytpbpenlceigddaa.Eng
