/- Mid: contracts of functions, and lemmas, for this seat. Conditions: as each states. -/
import Derived.Test.YtlifhoajamnehaaReg
set_option linter.unusedVariables false
set_option maxRecDepth 100000
set_option maxHeartbeats 1000000
namespace Go.Proofs.Ytlifhoajamnehaa
open Go Go.RowKit
variable {P : Program} {ops : Array Oper} {W : World}
/-! a region that draws: calm operations in any order, then one that all the others wait for, then some that leave the world, in any order -/
/-- as long as one of the head is left none of what stands behind can go -/
def TW (md : Region.Mode) (ops : Array Oper) (n : Nat) : Prop := ∀ listed, HeadInv md ops n listed → ∀ i, i < n → listed.getD i true = false → ∀ t, n ≤ t → t ∉ Region.ready md ops listed
def chainW (md : Region.Mode) (ops : Array Oper) (n : Nat) : Bool :=
  (List.range ops.size).all fun t => decide (t ≤ n) || (List.range t).any fun u => decide (n ≤ u) && Region.waitsFor md ops t u
theorem tw_of {md : Region.Mode} {n : Nat} (hs : Region.sinkB md ops n = true) (hc : chainW md ops n = true) : TW md ops n := by
  intro listed inv
  have key : ∀ (d i : Nat), n - i = d → i < n → listed.getD i true = false → n ∉ Region.ready md ops listed := by
    intro d
    induction d using Nat.strongRecOn with
    | _ d ih =>
      intro i hd hi hun hr
      obtain ⟨_, ot, hot, hall⟩ := mem_ready.1 hr
      have htlt : n < ops.size := (Array.getElem?_eq_some_iff.1 hot).1
      have h1 := List.all_eq_true.1 hs i (List.mem_range.2 hi)
      obtain ⟨j, hj, hj2⟩ := List.any_eq_true.1 h1
      simp only [Bool.and_eq_true, decide_eq_true_eq] at hj2
      obtain ⟨oj, hoj, e, he, hb, hon⟩ := Region.waitsFor_spec hj2.2
      have hjle : j ≤ n := by have := List.mem_range.1 hj; omega
      by_cases hjt : j = n
      · subst hjt
        have : oj = ot := Option.some.inj (hoj.symm.trans hot)
        subst this
        have h2 := hall e he hb
        rw [hon, getD_both hun] at h2
        cases h2
      · cases hl : listed.getD j false with
        | true =>
          have h2 := inv.closed j oj hoj hl e he hb
          rw [hon, getD_both hun] at h2
          cases h2
        | false =>
          have hjs : j < listed.size := by rw [inv.size]; omega
          exact ih (n - j) (by omega) j rfl (by omega) (getD_in hjs hl) hr
  intro i hi hun t ht hr
  rcases Nat.eq_or_lt_of_le ht with rfl | ht'
  · exact key _ i rfl hi hun hr
  · obtain ⟨_, ot, hot, hall⟩ := mem_ready.1 hr
    have htlt : t < ops.size := (Array.getElem?_eq_some_iff.1 hot).1
    have h1 := List.all_eq_true.1 hc t (List.mem_range.2 htlt)
    simp only [Bool.or_eq_true, decide_eq_true_eq] at h1
    rcases h1 with h1 | h1
    · omega
    · obtain ⟨u, hu, hu2⟩ := List.any_eq_true.1 h1
      simp only [Bool.and_eq_true, decide_eq_true_eq] at hu2
      obtain ⟨o', ho', e, he, hb, hon⟩ := Region.waitsFor_spec hu2.2
      have : ot = o' := Option.some.inj (hot.symm.trans ho')
      subst this
      have h2 := hall e he hb
      have hu3 := List.mem_range.1 hu
      rw [hon, getD_both (inv.tail u hu2.1 (by omega))] at h2
      cases h2
def lexHd (md : Region.Mode) (ops : Array Oper) (B : Array Bool → Bool) : Nat → Nat → Array Bool → Bool
  | 0, _, listed => B listed
  | f + 1, k, listed => (Region.ready md ops listed).contains k && Region.free md ops listed k && lexHd md ops B f (k + 1) (listed.setIfInBounds k true)
def midBase (md : Region.Mode) (ops : Array Oper) (q : Nat) (listed : Array Bool) : Bool :=
  decide (Region.ready md ops listed = [q]) && Region.lexFrom md ops (ops.size - (q + 1)) (q + 1) (listed.setIfInBounds q true)
def midB (md : Region.Mode) (ops : Array Oper) (q : Nat) : Bool :=
  Region.noSelect ops && decide (q < ops.size) && Region.sinkB md ops q && chainW md ops q && lexHd md ops (midBase md ops q) q 0 (Array.replicate ops.size false)
/-- a calm operation may be taken first -/
theorem wpH_firstM {i : Nat} {oi : Oper} {v : Value} {md : Region.Mode} {n q s : Nat} {ann : Nat → Array Value × TypeId} {L : Array Bool → Act → (World → Prop) → Prop} (hi : ops[i]? = some oi) (hsel : ∀ (j : Nat) (o : Oper) cs b, ops[j]? = some o → o.op ≠ .select cs b)
    (htw : TW md ops n) (hin : i < n) (hiq : i < q)
    (hdone : ∀ listed a F, L listed a F → ∀ j ∈ Region.ready md ops listed, n ≤ j) :
    ∀ (k : Nat) (listed : Array Bool) (a : Act) (F : World → Prop), HeadInv md ops n listed → Free ops md listed i oi → i ∈ Region.ready md ops listed →
      (if Region.wanted oi (yielded ops a.tmps) then Calm P W oi a v else v = undef) →
      wpH P md ops W q s n ann L k (listed.setIfInBounds i true) (a.put oi.dst v) F → wpH P md ops W q s n ann L (k + 1) listed a F := by
  intro k
  have take : ∀ (K : Act → (World → Prop) → Prop) (a : Act) (F : World → Prop), (if Region.wanted oi (yielded ops a.tmps) then Calm P W oi a v else v = undef) → K (a.put oi.dst v) F → hOp P ops W q s ann i K a F := by
    intro K a F hy hK
    unfold hOp
    simp only [hi, hiq, if_true]
    split
    · rename_i hw; simp only [hw, if_true] at hy; exact ⟨v, hy, hK⟩
    · rename_i hw; simp only [hw] at hy; have hy' : v = undef := by simpa using hy
      subst hy'; exact hK
  induction k with
  | zero =>
    intro listed a F inv _ hr hy H
    have hun := (mem_ready.1 hr).1
    refine ⟨fun h => (by rw [h] at hr; cases hr), fun j hj => ?_⟩
    have hjn : j < n := by
      rcases Nat.lt_or_ge j n with h | h
      · exact h
      · exact absurd hj (htw listed inv i hin hun j h)
    refine ⟨hjn, ?_⟩
    by_cases hji : j = i
    · subst hji; exact take _ _ _ hy H
    · have := hdone _ _ _ H j (ready_mono hj hji)
      omega
  | succ k ih =>
    intro listed a F inv hfree hr hy H
    have hun := (mem_ready.1 hr).1
    refine ⟨fun h => (by rw [h] at hr; cases hr), fun j hj => ?_⟩
    have hjn : j < n := by
      rcases Nat.lt_or_ge j n with h | h
      · exact h
      · exact absurd hj (htw listed inv i hin hun j h)
    refine ⟨hjn, ?_⟩
    by_cases hji : j = i
    · subst hji; exact take _ _ _ hy H
    · have h1 := (H.2 j (ready_mono hj hji)).2
      obtain ⟨hjun, oj, hoj, _⟩ := mem_ready.1 hj
      have hap := hfree j oj hoj hji hjun (not_waits hun hj hoj)
      obtain ⟨d1, d2, d3⟩ := Oper.apart_spec hap
      have seli := fun cs b => hsel i oi cs b hi
      have selj := fun cs b => hsel j oj cs b hoj
      have keep : ∀ u, (if Region.wanted oi (yielded ops (a.put oj.dst u).tmps) then Calm P W oi (a.put oj.dst u) v else v = undef) := fun u => by
        rw [wanted_put oi a oj.dst u d3, calm_put seli d3]; exact hy
      have go : ∀ u F', wpH P md ops W q s n ann L k ((listed.setIfInBounds i true).setIfInBounds j true) ((a.put oi.dst v).put oj.dst u) F' → wpH P md ops W q s n ann L (k + 1) (listed.setIfInBounds j true) (a.put oj.dst u) F' := fun u F' h' => by
        refine ih _ _ _ (inv.set hj hjn) (free_set hfree hjun) (ready_mono hr (Ne.symm hji)) (keep u) ?_
        rw [Array.setIfInBounds_comm _ _ hji, ← Act.put_comm a v u d2]
        exact h'
      unfold hOp at h1 ⊢
      simp only [hoj] at h1 ⊢
      rw [wanted_put oj a oi.dst v d1] at h1
      split
      · rename_i hjq
        simp only [hjq, if_true] at h1
        split
        · rename_i hw
          simp only [hw, if_true] at h1
          obtain ⟨u, hu, hK⟩ := h1
          exact ⟨u, (calm_put selj d1).1 hu, go _ _ hK⟩
        · rename_i hw
          simp only [hw] at h1
          exact go _ _ h1
      · rename_i hjq
        simp only [hjq, if_false] at h1
        split
        · rename_i hjs
          simp only [hjs, if_true] at h1
          exact ⟨h1.1, (makes_put selj d1).1 h1.2.1, fun u => go _ _ (h1.2.2 u)⟩
        · rename_i hjs
          simp only [hjs, if_false] at h1
          obtain ⟨h2, F', h3, h4⟩ := h1
          exact ⟨h2, F', (fill_put selj d1).1 h3, go _ _ h4⟩
theorem wpH_lexM {md : Region.Mode} {n q s : Nat} {ann : Nat → Array Value × TypeId} {B : Array Bool → Bool} {R : Act → Prop} {L : Array Bool → Act → (World → Prop) → Prop} {F : World → Prop}
    (hdone : ∀ listed a F, L listed a F → ∀ j ∈ Region.ready md ops listed, n ≤ j) (hsel : Region.noSelect ops = true) (htw : TW md ops n) (hqn : q ≤ n)
    (hend : ∀ listed a, B listed = true → R a → L listed a F) :
    ∀ (l : List Oper) (k : Nat) (listed : Array Bool) (a : Act), (∀ j, j < l.length → l[j]? = ops[k + j]?) → k + l.length = q → HeadInv md ops n listed →
    lexHd md ops B l.length k listed = true → walkQ P ops W l R a →
    wpH P md ops W q s n ann L l.length listed a F
  | [], k, listed, a, _, _, _, hB, h => hend listed a hB (by simp only [walkQ] at h; exact h)
  | o :: l, k, listed, a, hl, hk, inv, hB, h => by
    have h0 : ops[k]? = some o := by simpa using (hl 0 (by simp)).symm
    simp only [List.length_cons, lexHd, Bool.and_eq_true] at hB
    obtain ⟨⟨hr, hf⟩, hB'⟩ := hB
    have hkq : k < q := by simp only [List.length_cons] at hk; omega
    have hkn : k < n := by omega
    have hr' : k ∈ Region.ready md ops listed := by simpa using hr
    have next : ∀ v, walkQ P ops W l R (a.put o.dst v) → wpH P md ops W q s n ann L l.length (listed.setIfInBounds k true) (a.put o.dst v) F := fun v hv =>
      wpH_lexM hdone hsel htw hqn hend l (k + 1) _ _ (fun j hj => by have := hl (j + 1) (by simp; omega); simpa [Nat.add_assoc, Nat.add_comm 1 j] using this) (by simp only [List.length_cons] at hk; omega) (inv.set hr' hkn) hB' hv
    simp only [walkQ] at h
    by_cases hw : Region.wanted o (yielded ops a.tmps) = true
    · rw [if_pos hw] at h
      obtain ⟨v, hc', hK⟩ := h
      exact wpH_firstM (v := v) h0 (Region.noSelect_spec hsel) htw hkn hkq hdone _ listed a F inv (Region.free_spec h0 hf) hr' (by rw [if_pos hw]; exact hc') (next v hK)
    · rw [if_neg hw] at h
      exact wpH_firstM (v := undef) h0 (Region.noSelect_spec hsel) htw hkn hkq hdone _ listed a F inv (Region.free_spec h0 hf) hr' (by rw [if_neg hw]) (next undef h)
theorem wp_mid {id : Nat} {Q : Exit → Act → World → Prop} {a : Act} {w : World} {l : List Oper} (q : Nat) (hm : P.follows .mixedOrders = true) (hB : midB .any l.toArray q = true)
    (h : (∀ x b o, b < w.heap.size → (grow w.drew x).cell? ⟨b, o, none⟩ = w.cell? ⟨b, o, none⟩) → walkQ P l.toArray w.drew (l.take q) (fun a' => ∀ w', Ext w.drew w' → ∀ o ∈ (l.drop q).take 1, Region.wanted o (yielded l.toArray a'.tmps) = true ∧
      o.wp P a' w' (fun a'' w'' => wpStill P l.toArray w'' (fun b => Q .normal b w'') (l.drop (q + 1)) a'') Q) a) : (Code.region id l.toArray true).wp P Q a w := by
  replace h := h fun x b o hb => (ext_grow w.drew x).cells b o hb
  simp only [midB, Bool.and_eq_true, decide_eq_true_eq] at hB
  obtain ⟨⟨⟨⟨hsel, hn⟩, hs⟩, hc⟩, hlex⟩ := hB
  have hn' : q < l.length := by simpa using hn
  have htl : (l.take q).length = q := by simp; omega
  have inv0 : HeadInv .any l.toArray q (Array.replicate l.toArray.size false) :=
    ⟨by simp, fun j oj _ hl => (by rw [getD_replicate_false] at hl; cases hl), fun t _ ht => getD_in (by simpa using ht) (getD_replicate_false _ _)⟩
  have h0 : l.toArray[q]? = some l[q] := by simp [hn']
  have hmem : l[q] ∈ (l.drop q).take 1 := by
    rw [List.drop_eq_getElem_cons hn', List.take_succ_cons]
    exact List.mem_cons_self
  let R : Act → Prop := fun a' => ∀ w', Ext w.drew w' → Region.wanted l[q] (yielded l.toArray a'.tmps) = true ∧ l[q].wp P a' w' (fun a'' w'' => wpStill P l.toArray w'' (fun b => Q .normal b w'') (l.drop (q + 1)) a'') Q
  let L : Array Bool → Act → (World → Prop) → Prop := fun listed' a' _ => midBase .any l.toArray q listed' = true ∧ R a'
  have hdone : ∀ listed a F, L listed a F → ∀ j ∈ Region.ready .any l.toArray listed, q ≤ j := fun listed a F hL j hj => by
    have h1 := hL.1
    simp only [midBase, Bool.and_eq_true, decide_eq_true_eq] at h1
    rw [h1.1] at hj
    have : j = q := by simpa using hj
    omega
  have mono : ∀ (r : List Oper) (a : Act) (R1 R2 : Act → Prop), (∀ a, R1 a → R2 a) → walkQ P l.toArray w.drew r R1 a → walkQ P l.toArray w.drew r R2 a := by
    intro r
    induction r with
    | nil => exact fun a R1 R2 hr h => by simp only [walkQ] at h ⊢; exact hr a h
    | cons o r ih =>
      intro a R1 R2 hr h
      simp only [walkQ] at h ⊢
      split
      · rename_i hw
        rw [if_pos hw] at h
        obtain ⟨v, h1, h2⟩ := h
        exact ⟨v, h1, ih _ R1 R2 hr h2⟩
      · rename_i hw
        rw [if_neg hw] at h
        exact ih _ R1 R2 hr h
  have H := wpH_lexM (P := P) (W := w.drew) (q := q) (s := q) (n := q) (ann := fun _ => (#[], 0)) (F := fun _ => True) (R := R) (L := L) (md := .any) (B := midBase .any l.toArray q)
    hdone hsel (tw_of hs hc) (Nat.le_refl _) (fun listed a hB hr => ⟨hB, hr⟩) (l.take q) 0 _ a (fun j hj => by
      have hj' : j < q := by rw [htl] at hj; exact hj
      simp [hj']) (by simpa using htl) inv0 (by rw [htl]; exact hlex) (mono _ _ _ _ (fun a' ha w' hx => ha w' hx _ hmem) h)
  refine wp_region_any hm ?_
  have := wpAny_of_wpH (Q' := Q) (g := l.toArray.size - q) (fun listed a' F' hL _ w' hw' hF' => by
    obtain ⟨h1, h2⟩ := hL
    simp only [midBase, Bool.and_eq_true, decide_eq_true_eq] at h1
    obtain ⟨h3, h4⟩ := h2 w' hw'
    rw [show l.toArray.size - q = (l.toArray.size - (q + 1)) + 1 by omega]
    refine ⟨fun he => (by rw [h1.1] at he; cases he), fun i hi => ?_⟩
    rw [h1.1] at hi
    obtain rfl : i = q := by simpa using hi
    unfold wpOp
    simp only [h0, h3, if_true]
    refine .inl (Oper.wp_mono (fun a'' w'' hK => ?_) h4)
    have hd : (l.drop (i + 1)).length = l.toArray.size - (i + 1) := by simp
    have := wpAnyS_lex (md := .any) hsel (l.drop (i + 1)) (i + 1) (listed.setIfInBounds i true) a'' (fun j => by simp [List.getElem?_drop]) (by rw [hd]; exact h1.2) hK
    rw [hd] at this
    exact wpAny_of_still (Q := fun b => Q .normal b w'') (fun _ h => h) _ _ _ this) _ _ _ _ H (fun _ _ _ h => h) w.drew (Ext.refl _) trivial
  rw [htl, show q + (l.toArray.size - q) = l.toArray.size by omega] at this
  exact this
theorem mid_step {o : Oper} {a : Act} {w : World} {K : Act → World → Prop} {Q : Exit → Act → World → Prop}
    (h : ∀ K' : Act → World → Prop, (∀ a w, K a w → K' a w) → Region.wanted o (yielded ops a.tmps) = true ∧ o.wp P a w K' Q) : ∀ o' ∈ [o], Region.wanted o' (yielded ops a.tmps) = true ∧ o'.wp P a w K Q := fun o' ho => by
  obtain rfl := List.mem_singleton.1 ho
  exact h K fun _ _ h => h
end Go.Proofs.Ytlifhoajamnehaa
