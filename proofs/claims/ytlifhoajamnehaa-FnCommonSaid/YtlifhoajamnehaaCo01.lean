/- Reg Math Base Bits: contracts of functions, and lemmas, for this seat. Conditions: as each states. -/
import Derived.WalkKit
import Derived.Handy
import Derived.StillTail
import Derived.Deep.QuietTactic
import Derived.BigQuiet
import Derived.Test.YtlifhoajamnehaaProg
import Derived.Outline
import Derived.Lib.Hide
import Derived.Laws.BitsAllLaws
set_option linter.unusedVariables false
set_option linter.unusedSimpArgs false
set_option maxRecDepth 100000
set_option maxHeartbeats 1000000
namespace Go.Proofs.Ytlifhoajamnehaa
open Go Go.RowKit
/-! what was there stays -/
def Ext (a w : World) : Prop := Below a.heap.size a w
section
variable {a b c w : World}
theorem Ext.refl (w : World) : Ext w w := Below.refl _ _
theorem Ext.size (h : Ext a w) : a.heap.size ≤ w.heap.size := Below.size h
theorem Ext.trans (h : Ext a b) (k : Ext b c) : Ext a c := Below.trans h (Below.mono k (Below.size h))
theorem Ext.alloc (h : Ext a w) (o : Obj) : Ext a (w.alloc o) := Below.alloc h (Below.size h) o
theorem Ext.drew (h : Ext a w) : Ext a w.drew := Below.drew h
theorem Ext.drewN (h : Ext a w) (n : Nat) : Ext a (w.drewN n) := have k : Below a.heap.size a w := h
  ⟨k.os, k.tape, k.output, k.size, k.block⟩
theorem Ext.setCell (h : Ext a w) {p : Addr} (hp : a.heap.size ≤ p.block) (u : Value) : Ext a (w.setCell p u) := Below.setCell h hp u
theorem Ext.below (h : Ext a w) : Below a.heap.size a w := h
theorem Ext.of (h : Below a.heap.size a w) : Ext a w := h
theorem Ext.cells (h : Ext a w) : ∀ b o, b < a.heap.size → w.cell? ⟨b, o, none⟩ = a.cell? ⟨b, o, none⟩ := fun b o hb => Below.cell (p := ⟨b, o, none⟩) h hb
theorem Ext.frees (h : Ext a w) : ∀ b o, b < a.heap.size → w.frozen? ⟨b, o, none⟩ = a.frozen? ⟨b, o, none⟩ := fun b o hb => Below.frozen (p := ⟨b, o, none⟩) h hb
theorem Ext.at (h : Ext a w) {b : Nat} (hb : b < a.heap.size) : w.heap[b]? = a.heap[b]? := Below.block h b hb
end

/-! a statement whose order is open: first what only computes, reads or calls (calls may make memory), then new blocks, then what stands in one order -/
/-- a new block, not there in W -/
def Fresh (W : World) (c : Array Value × TypeId) (v : Value) (w : World) : Prop :=
  ∃ b, v = .pointer (some ⟨b, 0, none⟩) ∧ W.heap.size ≤ b ∧ w.heap[b]? = some (.cells c.1 c.2)
def Stable (F : World → Prop) : Prop := ∀ w w', Ext w w' → F w → F w'
theorem fresh_stable (W : World) (c : Array Value × TypeId) (v : Value) : Stable (Fresh W c v) := fun w w' hx ⟨b, h1, h2, h3⟩ => by
  have hb : b < w.heap.size := by
    rcases Nat.lt_or_ge b w.heap.size with h | h
    · exact h
    · rw [Array.getElem?_eq_none h] at h3; cases h3
  exact ⟨b, h1, h2, (hx.at hb).trans h3⟩
theorem and_stable {F G : World → Prop} (h : Stable F) (k : Stable G) : Stable fun w => F w ∧ G w := fun w w' hx ⟨h1, h2⟩ => ⟨h w w' hx h1, k w w' hx h2⟩

section
variable {P : Program} {ops : Array Oper} {md : Region.Mode} {W : World} {q s n : Nat} {ann : Nat → Array Value × TypeId}

/-- one value in every world that extends W -/
def Calm (P : Program) (W : World) (o : Oper) (a : Act) (v : Value) : Prop := ∀ w, Ext W w → o.quietAt P a (fun w' => Ext w w') w v
/-- a new block in every world -/
def Makes (P : Program) (o : Oper) (a : Act) (c : Array Value × TypeId) : Prop :=
  ∀ w, (execOp a.eval o).run P w = .ok (.value (.pointer (some ⟨w.heap.size, 0, none⟩))) (w.alloc (.cells c.1 c.2))

/-- a store into what is new -/
def Fill (P : Program) (W : World) (o : Oper) (a : Act) (F F' : World → Prop) : Prop :=
  Stable F' ∧ ∀ w, Ext W w → F w → ∃ w', (execOp a.eval o).run P w = .ok .skip w' ∧ Ext W w' ∧ F' w'

abbrev Post := Act → (World → Prop) → Prop

def hOp (P : Program) (ops : Array Oper) (W : World) (q s : Nat) (ann : Nat → Array Value × TypeId) (i : Nat) (K : Post) (a : Act) (F : World → Prop) : Prop :=
  match ops[i]? with
  | none => False
  | some o =>
    if i < q then
      (if Region.wanted o (yielded ops a.tmps) then ∃ v, Calm P W o a v ∧ K (a.put o.dst v) F else K (a.put o.dst undef) F)
    else if i < s then Region.wanted o (yielded ops a.tmps) = true ∧ Makes P o a (ann i) ∧ ∀ v, K (a.put o.dst v) (fun w => F w ∧ Fresh W (ann i) v w)
    else Region.wanted o (yielded ops a.tmps) = true ∧ ∃ F', Fill P W o a F F' ∧ K (a.put o.dst undef) F'

/-- whatever order is picked; F: what is known of the new blocks -/
def wpH (P : Program) (md : Region.Mode) (ops : Array Oper) (W : World) (q s n : Nat) (ann : Nat → Array Value × TypeId) (L : Array Bool → Post) : Nat → Array Bool → Post
  | 0, listed, a, F => L listed a F
  | k + 1, listed, a, F => Region.ready md ops listed ≠ [] ∧ ∀ i ∈ Region.ready md ops listed, i < n ∧ hOp P ops W q s ann i (wpH P md ops W q s n ann L k (listed.setIfInBounds i true)) a F

theorem wp_of_hOp {i : Nat} {K : Post} {K' : Act → World → Prop} {Q' : Exit → Act → World → Prop} {a : Act} {F : World → Prop} {w : World} (hw : Ext W w) (hs : Stable F) (hF : F w)
    (h : ∀ a F, K a F → Stable F → ∀ w, Ext W w → F w → K' a w) (hh : hOp P ops W q s ann i K a F) : wpOp P ops Q' i K' a w := by
  unfold hOp at hh
  unfold wpOp
  split
  · rename_i ho; simp only [ho] at hh
  · rename_i o ho
    simp only [ho] at hh
    by_cases hi : i < q
    · simp only [hi, if_true] at hh
      split
      · rename_i hwt
        simp only [hwt, if_true] at hh
        obtain ⟨v, hc, hK⟩ := hh
        refine .inl ?_
        have h3 := hc w hw
        unfold Oper.quietAt at h3
        unfold Oper.wp
        generalize (execOp a.eval o).run P w = r at *
        cases r with
        | ok m w' =>
          cases m <;> simp only [Oper.quietUpon] at h3 <;> simp only [Oper.upon]
          case value u => obtain ⟨e1, e2⟩ := h3; rw [e1, e2]; exact h _ _ hK hs _ hw hF
          case skip => obtain ⟨e1, e2⟩ := h3; rw [e1, ← e2]; exact h _ _ hK hs _ hw hF
          case enter f args =>
            obtain ⟨e1, hcall⟩ := h3
            rw [e1]
            exact hcall.mono fun e w'' ⟨he, hx⟩ => by subst he; exact h _ _ hK hs _ (hw.trans hx) (hs _ _ hx hF)
        | halt x w' => simp only [Oper.quietUpon] at h3
      · rename_i hwt; simp only [hwt] at hh; exact h _ _ hh hs _ hw hF
    · by_cases his : i < s
      · simp only [hi, his, if_false, if_true] at hh
        obtain ⟨hwt, hm, hK⟩ := hh
        simp only [hwt, if_true]
        refine .inl ?_
        unfold Oper.wp
        rw [hm w]
        simp only [Oper.upon]
        refine h _ _ (hK _) (and_stable hs (fresh_stable _ _ _)) _ (hw.alloc _) ⟨hs _ _ ((Ext.refl w).alloc _) hF, w.heap.size, rfl, hw.size, ?_⟩
        show (w.heap.push _)[w.heap.size]? = _
        simp
      · simp only [hi, his, if_false] at hh
        obtain ⟨hwt, F', ⟨hs', hf⟩, hK⟩ := hh
        simp only [hwt, if_true]
        refine .inl ?_
        obtain ⟨w', e, hx', hF'⟩ := hf w hw hF
        unfold Oper.wp
        rw [e]
        simp only [Oper.upon]
        exact h _ _ hK hs' _ hx' hF'

theorem wpAny_of_wpH {g : Nat} {L : Array Bool → Post} {Q' : Exit → Act → World → Prop}
    (hL : ∀ listed a F, L listed a F → Stable F → ∀ w, Ext W w → F w → wpAny P md ops Q' g listed a w) :
    ∀ (k : Nat) (listed : Array Bool) (a : Act) (F : World → Prop), wpH P md ops W q s n ann L k listed a F → Stable F → ∀ w, Ext W w → F w → wpAny P md ops Q' (k + g) listed a w
  | 0, listed, a, F, h, hs, w, hw, hF => by rw [Nat.zero_add]; exact hL _ _ _ h hs _ hw hF
  | k + 1, listed, a, F, h, hs, w, hw, hF => by
    rw [show k + 1 + g = (k + g) + 1 by omega]
    exact ⟨fun h0 => absurd h0 h.1, fun i hi => wp_of_hOp hw hs hF (fun a' F' h' hs' w' hw' hF' => wpAny_of_wpH hL k _ a' F' h' hs' w' hw' hF') (h.2 i hi).2⟩

/-- what an operation does is not turned by another's value -/
theorem calm_put {o o' : Oper} {a : Act} {u v : Value} (hsel : ∀ cs b, o.op ≠ .select cs b) (h : ∀ d, o'.dst = some d → d ∉ o.looksAt ops) : Calm P W o (a.put o'.dst u) v ↔ Calm P W o a v := by
  unfold Calm Oper.quietAt
  rw [execOp_put o hsel a o'.dst u h]
theorem makes_put {o o' : Oper} {a : Act} {u : Value} {c : Array Value × TypeId} (hsel : ∀ cs b, o.op ≠ .select cs b) (h : ∀ d, o'.dst = some d → d ∉ o.looksAt ops) : Makes P o (a.put o'.dst u) c ↔ Makes P o a c := by
  unfold Makes
  rw [execOp_put o hsel a o'.dst u h]

theorem fill_put {o o' : Oper} {a : Act} {u : Value} {F F' : World → Prop} (hsel : ∀ cs b, o.op ≠ .select cs b) (h : ∀ d, o'.dst = some d → d ∉ o.looksAt ops) : Fill P W o (a.put o'.dst u) F F' ↔ Fill P W o a F F' := by
  unfold Fill
  rw [execOp_put o hsel a o'.dst u h]

def Free (ops : Array Oper) (md : Region.Mode) (listed : Array Bool) (i : Nat) (oi : Oper) : Prop :=
  ∀ j oj, ops[j]? = some oj → j ≠ i → listed.getD j true = false → (∀ e ∈ oj.after, Region.binds md e = true → e.on ≠ i) → oi.apart ops oj = true

theorem free_set {listed : Array Bool} {i j : Nat} {oi : Oper} (h : Free ops md listed i oi) (hun : listed.getD j true = false) : Free ops md (listed.setIfInBounds j true) i oi := by
  intro k ok hk hki hun' hno
  refine h k ok hk hki ?_ hno
  by_cases hjk : j = k
  · subst hjk; exact hun
  · rw [getD_set_ne true hjk] at hun'; exact hun'

theorem not_waits {listed : Array Bool} {i j : Nat} {oj : Oper} (hun : listed.getD i true = false) (hj : j ∈ Region.ready md ops listed) (hoj : ops[j]? = some oj) : ∀ e ∈ oj.after, Region.binds md e = true → e.on ≠ i := fun e he hb heq => by
  obtain ⟨_, o, ho, hall⟩ := mem_ready.1 hj
  obtain rfl : oj = o := Option.some.inj (hoj.symm.trans ho)
  have h2 := hall e he hb
  rw [heq, getD_both hun] at h2
  cases h2

/-- a calm operation may be taken first -/
theorem wpH_first {i : Nat} {oi : Oper} {v : Value} {L : Array Bool → Post} (hi : ops[i]? = some oi) (hsel : ∀ (j : Nat) (o : Oper) cs b, ops[j]? = some o → o.op ≠ .select cs b)
    (hs : Region.sinkB md ops n = true) (hc : Region.chainB md ops n = true) (hn : n < ops.size) (hin : i < n) (hiq : i < q)
    (hdone : ∀ listed a F, L listed a F → ∀ j ∈ Region.ready md ops listed, n ≤ j) :
    ∀ (k : Nat) (listed : Array Bool) (a : Act) (F : World → Prop), HeadInv md ops n listed → Free ops md listed i oi → i ∈ Region.ready md ops listed →
      (if Region.wanted oi (yielded ops a.tmps) then Calm P W oi a v else v = undef) →
      wpH P md ops W q s n ann L k (listed.setIfInBounds i true) (a.put oi.dst v) F → wpH P md ops W q s n ann L (k + 1) listed a F := by
  intro k
  have take : ∀ (K : Post) (a : Act) (F : World → Prop), (if Region.wanted oi (yielded ops a.tmps) then Calm P W oi a v else v = undef) → K (a.put oi.dst v) F → hOp P ops W q s ann i K a F := by
    intro K a F hy hK
    unfold hOp
    simp only [hi, hiq, if_true]
    split
    · rename_i hw; simp only [hw, if_true] at hy; exact ⟨v, hy, hK⟩
    · rename_i hw; simp only [hw] at hy; have hy' : v = undef := by simpa using hy
      subst hy'; exact hK
  induction k with
  | zero =>
    intro listed a F inv _ hr hy H
    have hun := (mem_ready.1 hr).1
    refine ⟨fun h => (by rw [h] at hr; cases hr), fun j hj => ?_⟩
    have hjn : j < n := by
      rcases Nat.lt_or_ge j n with h | h
      · exact h
      · exact absurd hj (tail_waits hs hc hn inv _ i rfl hin hun j h)
    refine ⟨hjn, ?_⟩
    by_cases hji : j = i
    · subst hji; exact take _ _ _ hy H
    · have := hdone _ _ _ H j (ready_mono hj hji)
      omega
  | succ k ih =>
    intro listed a F inv hfree hr hy H
    have hun := (mem_ready.1 hr).1
    refine ⟨fun h => (by rw [h] at hr; cases hr), fun j hj => ?_⟩
    have hjn : j < n := by
      rcases Nat.lt_or_ge j n with h | h
      · exact h
      · exact absurd hj (tail_waits hs hc hn inv _ i rfl hin hun j h)
    refine ⟨hjn, ?_⟩
    by_cases hji : j = i
    · subst hji; exact take _ _ _ hy H
    · have h1 := (H.2 j (ready_mono hj hji)).2
      obtain ⟨hjun, oj, hoj, _⟩ := mem_ready.1 hj
      have hap := hfree j oj hoj hji hjun (not_waits hun hj hoj)
      obtain ⟨d1, d2, d3⟩ := Oper.apart_spec hap
      have seli := fun cs b => hsel i oi cs b hi
      have selj := fun cs b => hsel j oj cs b hoj
      have keep : ∀ u, (if Region.wanted oi (yielded ops (a.put oj.dst u).tmps) then Calm P W oi (a.put oj.dst u) v else v = undef) := fun u => by
        rw [wanted_put oi a oj.dst u d3, calm_put seli d3]; exact hy
      have go : ∀ u F', wpH P md ops W q s n ann L k ((listed.setIfInBounds i true).setIfInBounds j true) ((a.put oi.dst v).put oj.dst u) F' → wpH P md ops W q s n ann L (k + 1) (listed.setIfInBounds j true) (a.put oj.dst u) F' := fun u F' h' => by
        refine ih _ _ _ (inv.set hj hjn) (free_set hfree hjun) (ready_mono hr (Ne.symm hji)) (keep u) ?_
        rw [Array.setIfInBounds_comm _ _ hji, ← Act.put_comm a v u d2]
        exact h'
      unfold hOp at h1 ⊢
      simp only [hoj] at h1 ⊢
      rw [wanted_put oj a oi.dst v d1] at h1
      split
      · rename_i hjq
        simp only [hjq, if_true] at h1
        split
        · rename_i hw
          simp only [hw, if_true] at h1
          obtain ⟨u, hu, hK⟩ := h1
          exact ⟨u, (calm_put selj d1).1 hu, go _ _ hK⟩
        · rename_i hw
          simp only [hw] at h1
          exact go _ _ h1
      · rename_i hjq
        simp only [hjq, if_false] at h1
        split
        · rename_i hjs
          simp only [hjs, if_true] at h1
          exact ⟨h1.1, (makes_put selj d1).1 h1.2.1, fun u => go _ _ (h1.2.2 u)⟩
        · rename_i hjs
          simp only [hjs, if_false] at h1
          obtain ⟨h2, F', h3, h4⟩ := h1
          exact ⟨h2, F', (fill_put selj d1).1 h3, go _ _ h4⟩
end

section
variable {P : Program} {ops : Array Oper} {md : Region.Mode} {W : World} {q s n : Nat} {ann : Nat → Array Value × TypeId}

theorem wpH_weaken {L : Array Bool → Post} (hL : ∀ listed a F F', (∀ w, F' w → F w) → L listed a F → L listed a F') :
    ∀ (k : Nat) (listed : Array Bool) (a : Act) (F F' : World → Prop), (∀ w, F' w → F w) → wpH P md ops W q s n ann L k listed a F → wpH P md ops W q s n ann L k listed a F'
  | 0, _, _, _, _, hF, h => hL _ _ _ _ hF h
  | k + 1, listed, a, F, F', hF, h => ⟨h.1, fun i hi => ⟨(h.2 i hi).1, by
      have h1 := (h.2 i hi).2
      unfold hOp at h1 ⊢
      split
      · rename_i ho; simp only [ho] at h1
      · rename_i o ho
        simp only [ho] at h1
        split
        · rename_i hq
          simp only [hq, if_true] at h1
          split
          · rename_i hw; simp only [hw, if_true] at h1; obtain ⟨v, h2, h3⟩ := h1; exact ⟨v, h2, wpH_weaken hL k _ _ _ _ hF h3⟩
          · rename_i hw; simp only [hw] at h1; exact wpH_weaken hL k _ _ _ _ hF h1
        · rename_i hq
          simp only [hq, if_false] at h1
          split
          · rename_i hqs
            simp only [hqs, if_true] at h1
            exact ⟨h1.1, h1.2.1, fun v => wpH_weaken hL k _ _ _ _ (fun w hw => ⟨hF w hw.1, hw.2⟩) (h1.2.2 v)⟩
          · rename_i hqs
            simp only [hqs, if_false] at h1
            obtain ⟨h2, G, ⟨h3, h5⟩, h4⟩ := h1
            exact ⟨h2, G, ⟨h3, fun w hx hw => h5 w hx (hF w hw)⟩, h4⟩⟩⟩

/-- so may a new block, once all that is calm has been done -/
theorem wpH_fresh {i : Nat} {oi : Oper} {L : Array Bool → Post} (hi : ops[i]? = some oi) (hsel : ∀ (j : Nat) (o : Oper) cs b, ops[j]? = some o → o.op ≠ .select cs b)
    (hs : Region.sinkB md ops n = true) (hc : Region.chainB md ops n = true) (hn : n < ops.size) (hin : i < n) (hiq : ¬ i < q) (his : i < s) (hfill : ∀ j oj, ops[j]? = some oj → s ≤ j → j < n → ∃ e ∈ oj.after, Region.binds md e = true ∧ e.on = i)
    (hdone : ∀ listed a F, L listed a F → ∀ j ∈ Region.ready md ops listed, n ≤ j)
    (hLF : ∀ listed a F F', (∀ w, F' w → F w) → L listed a F → L listed a F') :
    ∀ (k : Nat) (listed : Array Bool) (a : Act) (F : World → Prop), HeadInv md ops n listed → Free ops md listed i oi → i ∈ Region.ready md ops listed → (∀ j, j < q → listed.getD j true = true) →
      Region.wanted oi (yielded ops a.tmps) = true → Makes P oi a (ann i) →
      (∀ v, wpH P md ops W q s n ann L k (listed.setIfInBounds i true) (a.put oi.dst v) (fun w => F w ∧ Fresh W (ann i) v w)) → wpH P md ops W q s n ann L (k + 1) listed a F := by
  intro k
  have take : ∀ (K : Post) (a : Act) (F : World → Prop), Region.wanted oi (yielded ops a.tmps) = true → Makes P oi a (ann i) → (∀ v, K (a.put oi.dst v) (fun w => F w ∧ Fresh W (ann i) v w)) → hOp P ops W q s ann i K a F := by
    intro K a F hw hm hK
    unfold hOp
    simp only [hi, hiq, his, if_false, if_true]
    exact ⟨hw, hm, hK⟩
  induction k with
  | zero =>
    intro listed a F inv _ hr _ hw hm H
    have hun := (mem_ready.1 hr).1
    refine ⟨fun h => (by rw [h] at hr; cases hr), fun j hj => ?_⟩
    have hjn : j < n := by
      rcases Nat.lt_or_ge j n with h | h
      · exact h
      · exact absurd hj (tail_waits hs hc hn inv _ i rfl hin hun j h)
    refine ⟨hjn, ?_⟩
    by_cases hji : j = i
    · subst hji; exact take _ _ _ hw hm H
    · have := hdone _ _ _ (H undef) j (ready_mono hj hji)
      omega
  | succ k ih =>
    intro listed a F inv hfree hr hall hw hm H
    have hun := (mem_ready.1 hr).1
    refine ⟨fun h => (by rw [h] at hr; cases hr), fun j hj => ?_⟩
    have hjn : j < n := by
      rcases Nat.lt_or_ge j n with h | h
      · exact h
      · exact absurd hj (tail_waits hs hc hn inv _ i rfl hin hun j h)
    refine ⟨hjn, ?_⟩
    by_cases hji : j = i
    · subst hji; exact take _ _ _ hw hm H
    · obtain ⟨hjun, oj, hoj, _⟩ := mem_ready.1 hj
      have hjq : ¬ j < q := fun h => by rw [hall j h] at hjun; cases hjun
      have hjs : j < s := by
        rcases Nat.lt_or_ge j s with h | h
        · exact h
        · obtain ⟨e, he, hb, hon⟩ := hfill j oj hoj h hjn
          exact absurd hon (not_waits hun hj hoj e he hb)
      have hap := hfree j oj hoj hji hjun (not_waits hun hj hoj)
      obtain ⟨d1, d2, d3⟩ := Oper.apart_spec hap
      have seli := fun cs b => hsel i oi cs b hi
      have selj := fun cs b => hsel j oj cs b hoj
      have h1 : ∀ v, Region.wanted oj (yielded ops a.tmps) = true ∧ Makes P oj a (ann j) ∧ ∀ u, wpH P md ops W q s n ann L k ((listed.setIfInBounds i true).setIfInBounds j true) ((a.put oi.dst v).put oj.dst u) (fun w => (F w ∧ Fresh W (ann i) v w) ∧ Fresh W (ann j) u w) := fun v => by
        have h2 := ((H v).2 j (ready_mono hj hji)).2
        unfold hOp at h2
        simp only [hoj, hjq, hjs, if_false, if_true] at h2
        rw [wanted_put oj a oi.dst v d1, makes_put selj d1] at h2
        exact h2
      unfold hOp
      simp only [hoj, hjq, hjs, if_false, if_true]
      refine ⟨(h1 undef).1, (h1 undef).2.1, fun u => ?_⟩
      refine ih _ _ _ (inv.set hj hjn) (free_set hfree hjun) (ready_mono hr (Ne.symm hji)) (fun m hm' => ?_) ?_ ?_ fun v => ?_
      · by_cases e : j = m
        · subst e; exact absurd hm' hjq
        · rw [getD_set_ne true e]; exact hall m hm'
      · rw [wanted_put oi a oj.dst u d3]; exact hw
      · rw [makes_put seli d3]; exact hm
      · rw [Array.setIfInBounds_comm _ _ hji, ← Act.put_comm a v u d2]
        exact wpH_weaken hLF k _ _ _ _ (fun w ⟨⟨x, y⟩, z⟩ => ⟨⟨x, z⟩, y⟩) ((h1 v).2.2 u)

/-- one walk, in the order of the text -/
def walkQ (P : Program) (ops : Array Oper) (W : World) : List Oper → (Act → Prop) → Act → Prop
  | [], R, a => R a
  | o :: r, R, a => if Region.wanted o (yielded ops a.tmps) then ∃ v, Calm P W o a v ∧ walkQ P ops W r R (a.put o.dst v) else walkQ P ops W r R (a.put o.dst undef)
def walkF (P : Program) (ops : Array Oper) (W : World) (ann : Nat → Array Value × TypeId) : Nat → List Oper → Post → Act → (World → Prop) → Prop
  | _, [], R, a, F => R a F
  | i, o :: r, R, a, F => Region.wanted o (yielded ops a.tmps) = true ∧ Makes P o a (ann i) ∧ ∀ v, walkF P ops W ann (i + 1) r R (a.put o.dst v) (fun w => F w ∧ Fresh W (ann i) v w)

theorem getD_set_all {listed : Array Bool} {i j : Nat} (h : listed.getD j true = true ∨ j = i) : (listed.setIfInBounds i true).getD j true = true := by
  by_cases e : i = j
  · subst e
    rcases Nat.lt_or_ge i listed.size with h' | h'
    · simp [h']
    · simp
  · rw [getD_set_ne true e]; exact h.resolve_right (fun e' => e e'.symm)

/-- a store into a new block, once all else of the head has been done -/
theorem wpH_fill {i : Nat} {oi : Oper} {L : Array Bool → Post} (hi : ops[i]? = some oi)
    (hs : Region.sinkB md ops n = true) (hc : Region.chainB md ops n = true) (hn : n < ops.size) (hin : i + 1 = n) (hiq : ¬ i < q) (his : ¬ i < s)
    (listed : Array Bool) (a : Act) (F F' : World → Prop) (inv : HeadInv md ops n listed) (hr : i ∈ Region.ready md ops listed) (hall : ∀ j, j < i → listed.getD j true = true)
    (hw : Region.wanted oi (yielded ops a.tmps) = true) (hf : Fill P W oi a F F') (H : L (listed.setIfInBounds i true) (a.put oi.dst undef) F') : wpH P md ops W q s n ann L 1 listed a F := by
  have hun := (mem_ready.1 hr).1
  refine ⟨fun h => (by rw [h] at hr; cases hr), fun j hj => ?_⟩
  have hjn : j < n := by
    rcases Nat.lt_or_ge j n with h | h
    · exact h
    · exact absurd hj (tail_waits hs hc hn inv _ i rfl (by omega) hun j h)
  obtain rfl : j = i := by
    rcases Nat.lt_or_ge j i with h | h
    · have := (mem_ready.1 hj).1
      rw [hall j h] at this; cases this
    · omega
  refine ⟨hjn, ?_⟩
  unfold hOp
  simp only [hi, hiq, his, if_false]
  exact ⟨hw, F', hf, H⟩

theorem wpH_lexF {g m : Nat} {R : Post} {L : Array Bool → Post} (hR : ∀ a F F', (∀ w, F' w → F w) → R a F → R a F') (hLF : ∀ listed a F F', (∀ w, F' w → F w) → L listed a F → L listed a F')
    (hdone : ∀ listed a F, L listed a F → ∀ j ∈ Region.ready md ops listed, n ≤ j) (hsel : Region.noSelect ops = true) (hs : Region.sinkB md ops n = true) (hc : Region.chainB md ops n = true) (hn : n < ops.size) (hsn : s ≤ n)
    (hfill : ∀ i, q ≤ i → i < s → ∀ j oj, ops[j]? = some oj → s ≤ j → j < n → ∃ e ∈ oj.after, Region.binds md e = true ∧ e.on = i)
    (hend : ∀ listed a F, HeadInv md ops n listed → (∀ j, j < s → listed.getD j true = true) → Region.lexHead md ops g m s listed = true → R a F → wpH P md ops W q s n ann L m listed a F) :
    ∀ (l : List Oper) (k : Nat) (listed : Array Bool) (a : Act) (F : World → Prop), (∀ j, j < l.length → l[j]? = ops[k + j]?) → k + l.length = s → q ≤ k → HeadInv md ops n listed → (∀ j, j < k → listed.getD j true = true) →
    Region.lexHead md ops g (l.length + m) k listed = true → walkF P ops W ann k l R a F →
    wpH P md ops W q s n ann L (l.length + m) listed a F
  | [], k, listed, a, F, _, hk, _, inv, hall, hB, h => by
    obtain rfl : k = s := by simpa using hk
    rw [List.length_nil, Nat.zero_add] at hB ⊢
    exact hend listed a F inv hall hB h
  | o :: l, k, listed, a, F, hl, hk, hq, inv, hall, hB, h => by
    have h0 : ops[k]? = some o := by simpa using (hl 0 (by simp)).symm
    rw [show (o :: l).length + m = (l.length + m) + 1 by simp only [List.length_cons]; omega] at hB ⊢
    simp only [Region.lexHead, Bool.and_eq_true] at hB
    obtain ⟨⟨hr, hf⟩, hB'⟩ := hB
    have hks : k < s := by simp only [List.length_cons] at hk; omega
    have hkn : k < n := by omega
    have hr' : k ∈ Region.ready md ops listed := by simpa using hr
    obtain ⟨hw, hm, hK⟩ := h
    exact wpH_fresh h0 (Region.noSelect_spec hsel) hs hc hn hkn (by omega) hks (hfill k hq hks) hdone hLF (l.length + m) listed a F inv (Region.free_spec h0 hf) hr' (fun j hj => hall j (by omega)) hw hm
      fun v => wpH_lexF hR hLF hdone hsel hs hc hn hsn hfill hend l (k + 1) _ _ _ (fun j hj => by have := hl (j + 1) (by simp; omega); simpa [Nat.add_assoc, Nat.add_comm 1 j] using this) (by simp only [List.length_cons] at hk; omega) (by omega) (inv.set hr' hkn)
        (fun j hj => getD_set_all (by rcases Nat.lt_or_ge j k with h | h; exact .inl (hall j h); exact .inr (by omega))) hB' (hK v)

theorem wpH_lexQ {g m : Nat} {R : Act → Prop} {L : Array Bool → Post} {F : World → Prop}
    (hdone : ∀ listed a F, L listed a F → ∀ j ∈ Region.ready md ops listed, n ≤ j) (hsel : Region.noSelect ops = true) (hs : Region.sinkB md ops n = true) (hc : Region.chainB md ops n = true) (hn : n < ops.size) (hqn : q ≤ n)
    (hend : ∀ listed a, HeadInv md ops n listed → (∀ j, j < q → listed.getD j true = true) → Region.lexHead md ops g m q listed = true → R a → wpH P md ops W q s n ann L m listed a F) :
    ∀ (l : List Oper) (k : Nat) (listed : Array Bool) (a : Act), (∀ j, j < l.length → l[j]? = ops[k + j]?) → k + l.length = q → HeadInv md ops n listed → (∀ j, j < k → listed.getD j true = true) →
    Region.lexHead md ops g (l.length + m) k listed = true → walkQ P ops W l R a →
    wpH P md ops W q s n ann L (l.length + m) listed a F
  | [], k, listed, a, _, hk, inv, hall, hB, h => by
    obtain rfl : k = q := by simpa using hk
    rw [List.length_nil, Nat.zero_add] at hB ⊢
    exact hend listed a inv hall hB h
  | o :: l, k, listed, a, hl, hk, inv, hall, hB, h => by
    have h0 : ops[k]? = some o := by simpa using (hl 0 (by simp)).symm
    rw [show (o :: l).length + m = (l.length + m) + 1 by simp only [List.length_cons]; omega] at hB ⊢
    simp only [Region.lexHead, Bool.and_eq_true] at hB
    obtain ⟨⟨hr, hf⟩, hB'⟩ := hB
    have hkq : k < q := by simp only [List.length_cons] at hk; omega
    have hkn : k < n := by omega
    have hr' : k ∈ Region.ready md ops listed := by simpa using hr
    have next : ∀ v, walkQ P ops W l R (a.put o.dst v) → wpH P md ops W q s n ann L (l.length + m) (listed.setIfInBounds k true) (a.put o.dst v) F := fun v hv =>
      wpH_lexQ hdone hsel hs hc hn hqn hend l (k + 1) _ _ (fun j hj => by have := hl (j + 1) (by simp; omega); simpa [Nat.add_assoc, Nat.add_comm 1 j] using this) (by simp only [List.length_cons] at hk; omega) (inv.set hr' hkn)
        (fun j hj => getD_set_all (by rcases Nat.lt_or_ge j k with h | h; exact .inl (hall j h); exact .inr (by omega))) hB' hv
    simp only [walkQ] at h
    by_cases hw : Region.wanted o (yielded ops a.tmps) = true
    · rw [if_pos hw] at h
      obtain ⟨v, hc', hK⟩ := h
      exact wpH_first (v := v) h0 (Region.noSelect_spec hsel) hs hc hn hkn hkq hdone _ listed a F inv (Region.free_spec h0 hf) hr' (by rw [if_pos hw]; exact hc') (next v hK)
    · rw [if_neg hw] at h
      exact wpH_first (v := undef) h0 (Region.noSelect_spec hsel) hs hc hn hkn hkq hdone _ listed a F inv (Region.free_spec h0 hf) hr' (by rw [if_neg hw]) (next undef h)

/-- the store waits for each new block -/
def fillB (md : Region.Mode) (ops : Array Oper) (q s n : Nat) : Bool :=
  (List.range (s - q)).all fun i => (List.range (n - s)).all fun j => (ops[s + j]?).all fun o => o.after.any fun e => Region.binds md e && decide (e.on = q + i)
theorem fillB_spec {md : Region.Mode} {ops : Array Oper} {q s n : Nat} (h : fillB md ops q s n = true) : ∀ i, q ≤ i → i < s → ∀ j oj, ops[j]? = some oj → s ≤ j → j < n → ∃ e ∈ oj.after, Region.binds md e = true ∧ e.on = i := by
  intro i hi his j oj hoj hsj hjn
  unfold fillB at h
  rw [List.all_eq_true] at h
  have h1 := h (i - q) (by simp; omega)
  rw [List.all_eq_true] at h1
  have h2 := h1 (j - s) (by simp; omega)
  rw [show s + (j - s) = j by omega, hoj] at h2
  simp only [Option.all_some, Array.any_eq_true, Bool.and_eq_true, decide_eq_true_eq] at h2
  obtain ⟨k, hk, h3, h4⟩ := h2
  exact ⟨_, Array.getElem_mem hk, h3, by omega⟩

/-- A REGION THAT DRAWS ITS ORDER: q calm operations, f new blocks, m (none or one) stores into a new block, then what stands in one order -/
theorem wp_region_fill {id : Nat} {Q : Exit → Act → World → Prop} {a : Act} {w : World} {l : List Oper} (q f m : Nat) (hm1 : m ≤ 1) (ann : Nat → Array Value × TypeId) (hm : P.follows .mixedOrders = true) (hB : Region.lexTailB .any l.toArray (q + f + m) = true) (hfb : fillB .any l.toArray q (q + f) (q + f + m) = true)
    (R : Post) (hR : ∀ a F F', (∀ w, F' w → F w) → R a F → R a F')
    (hRm : ∀ a F, R a F → ∀ o ∈ (l.drop (q + f)).take m, Region.wanted o (yielded l.toArray a.tmps) = true ∧ ∃ F', Fill P w.drew o a F F' ∧ ∀ w', Ext w.drew w' → F' w' → wpList P l.toArray Q (l.drop (q + f + m)) (a.put o.dst undef) w')
    (hR0 : m = 0 → ∀ a F, R a F → ∀ w', Ext w.drew w' → F w' → wpList P l.toArray Q (l.drop (q + f + m)) a w')
    (h : walkQ P l.toArray w.drew (l.take q) (fun a' => walkF P l.toArray w.drew ann q ((l.drop q).take f) R a' (fun _ => True)) a) : (Code.region id l.toArray true).wp P Q a w := by
  simp only [Region.lexTailB, Bool.and_eq_true, decide_eq_true_eq] at hB
  obtain ⟨⟨⟨⟨hsel, hn⟩, hs⟩, hc⟩, hlex⟩ := hB
  have hn' : q + f + m < l.length := by simpa using hn
  have htl : (l.take q).length = q := by simp; omega
  have hfl : ((l.drop q).take f).length = f := by simp; omega
  have hdl : (l.drop (q + f + m)).length = l.toArray.size - (q + f + m) := by simp
  have inv0 : HeadInv .any l.toArray (q + f + m) (Array.replicate l.toArray.size false) :=
    ⟨by simp, fun j oj _ hl => (by rw [getD_replicate_false] at hl; cases hl), fun t _ ht => getD_in (by simpa using ht) (getD_replicate_false _ _)⟩
  let L : Array Bool → Post := fun listed' a' F' => Region.seqB .any l.toArray (l.toArray.size - (q + f + m)) (q + f + m) listed' = true ∧ ∀ w', Ext w.drew w' → F' w' → wpList P l.toArray Q (l.drop (q + f + m)) a' w'
  have hLF : ∀ listed a F F', (∀ w, F' w → F w) → L listed a F → L listed a F' := fun _ _ _ _ hF hL => ⟨hL.1, fun w' hx hF' => hL.2 w' hx (hF _ hF')⟩
  have hdone : ∀ listed a F, L listed a F → ∀ j ∈ Region.ready .any l.toArray listed, q + f + m ≤ j := fun _ _ _ hL => seqB_ready hL.1
  have hend : ∀ listed a F, HeadInv .any l.toArray (q + f + m) listed → (∀ j, j < q + f → listed.getD j true = true) → Region.lexHead .any l.toArray (l.toArray.size - (q + f + m)) m (q + f) listed = true → R a F → wpH P .any l.toArray w.drew q (q + f) (q + f + m) ann L m listed a F := by
    intro listed a F inv hall hlx hr
    rcases m with _ | m
    · rw [show Region.lexHead .any l.toArray (l.toArray.size - (q + f + 0)) 0 (q + f) listed = Region.seqB .any l.toArray (l.toArray.size - (q + f + 0)) (q + f) listed from rfl] at hlx
      exact ⟨hlx, hR0 rfl a F hr⟩
    · obtain rfl : m = 0 := by omega
      have hlt : q + f < l.length := by omega
      have h0 : l.toArray[q + f]? = some l[q + f] := by simp [hlt]
      have hmem : l[q + f] ∈ (l.drop (q + f)).take 1 := by
        rw [List.drop_eq_getElem_cons hlt, List.take_succ_cons]
        exact List.mem_cons_self
      obtain ⟨h1, F', h2, h3⟩ := hRm a F hr _ hmem
      simp only [Region.lexHead, Bool.and_eq_true] at hlx
      obtain ⟨⟨hr1, _⟩, hl2⟩ := hlx
      exact wpH_fill h0 hs hc hn rfl (by omega) (by omega) listed a F F' inv (by simpa using hr1) hall h1 h2 ⟨hl2, h3⟩
  have H := wpH_lexQ (P := P) (W := w.drew) (q := q) (s := q + f) (n := q + f + m) (ann := ann) (F := fun _ => True) (R := fun a' => walkF P l.toArray w.drew ann q ((l.drop q).take f) R a' (fun _ => True)) (L := L) (md := .any) (m := f + m)
    (g := l.toArray.size - (q + f + m)) hdone hsel hs hc hn (by omega) (fun listed a inv hall hlx hr => by
      have := wpH_lexF (P := P) (m := m) hR hLF hdone hsel hs hc hn (by omega) (fillB_spec hfb) hend ((l.drop q).take f) q listed a (fun _ => True) (fun j hj => by
        rw [hfl] at hj
        simp [hj, List.getElem?_drop]) (by rw [hfl]) (Nat.le_refl _) inv hall (by rw [hfl]; exact hlx) hr
      rwa [hfl] at this) (l.take q) 0 _ a (fun j hj => by
      have hj' : j < q := by rw [htl] at hj; exact hj
      simp [hj']) (by simpa using htl) inv0 (fun j hj => absurd hj (Nat.not_lt_zero _)) (by rw [htl, ← Nat.add_assoc]; exact hlex) h
  refine wp_region_any hm ?_
  have := wpAny_of_wpH (Q' := Q) (g := l.toArray.size - (q + f + m)) (fun listed a' F' hL _ w' hw' hF' => by
    have := wpAny_of_seq (md := .any) (Q' := Q) (l.drop (q + f + m)) (q + f + m) listed a' w' (fun j => by simp [List.getElem?_drop]) (by rw [hdl]; exact hL.1) (hL.2 w' hw' hF')
    rwa [hdl] at this) _ _ _ _ H (fun _ _ _ h => h) w.drew (Ext.refl _) trivial
  rw [htl, show q + (f + m) + (l.toArray.size - (q + f + m)) = l.toArray.size by omega] at this
  exact this

/-- A REGION THAT DRAWS ITS ORDER: q calm operations, f new blocks, then what stands in one order -/
theorem wp_region_calm {id : Nat} {Q : Exit → Act → World → Prop} {a : Act} {w : World} {l : List Oper} (q f : Nat) (ann : Nat → Array Value × TypeId) (hm : P.follows .mixedOrders = true) (hB : Region.lexTailB .any l.toArray (q + f) = true)
    (h : walkQ P l.toArray w.drew (l.take q) (fun a' => walkF P l.toArray w.drew ann q ((l.drop q).take f) (fun a'' F => ∀ w', Ext w.drew w' → F w' → wpList P l.toArray Q (l.drop (q + f)) a'' w') a' (fun _ => True)) a) : (Code.region id l.toArray true).wp P Q a w :=
  wp_region_fill q f 0 (Nat.zero_le _) ann hm hB (by unfold fillB; simp) _ (fun a F F' hF hh w' hw' hF' => hh w' hw' (hF _ hF')) (fun _ _ _ o ho => by simp at ho) (fun _ a F hr => hr) h

open Classical in
/-- a world that extends W, if x is one -/
noncomputable def grow (W x : World) : World := if Ext W x then x else W
theorem ext_grow (W x : World) : Ext W (grow W x) := by unfold grow; split; assumption; exact Ext.refl _
theorem grow_of {W x : World} (h : Ext W x) : grow W x = x := by unfold grow; rw [if_pos h]
theorem walkQ_step {o : Oper} {r : List Oper} {R : Act → Prop} {a : Act}
    (h : ∀ K : Act → Prop, (∀ a, walkQ P ops W r R a → K a) → if Region.wanted o (yielded ops a.tmps) then ∃ v, (∀ x, o.quietAt P a (fun w' => Ext (grow W x) w') (grow W x) v) ∧ K (a.put o.dst v) else K (a.put o.dst undef)) : walkQ P ops W (o :: r) R a := by
  have h1 := h (walkQ P ops W r R) (fun _ h => h)
  simp only [walkQ]
  split
  · rename_i hw
    rw [if_pos hw] at h1
    obtain ⟨v, h2, h3⟩ := h1
    refine ⟨v, fun w hx => ?_, h3⟩
    have := h2 w
    rw [grow_of hx] at this
    exact this
  · rename_i hw
    rw [if_neg hw] at h1
    exact h1
theorem walkQ_nil {R : Act → Prop} {a : Act} (h : R a) : walkQ P ops W [] R a := h
theorem walkF_nil {i : Nat} {R : Post} {a : Act} {F : World → Prop} (h : R a F) : walkF P ops W ann i [] R a F := h
/-- the same, with what a walk wants to know of the worlds that extend this one -/
theorem wp_calm {id : Nat} {Q : Exit → Act → World → Prop} {a : Act} {w : World} {l : List Oper} (q f : Nat) (ann : Nat → Array Value × TypeId) (hm : P.follows .mixedOrders = true) (hB : Region.lexTailB .any l.toArray (q + f) = true)
    (h : (∀ x b o, b < w.heap.size → (grow w.drew x).cell? ⟨b, o, none⟩ = w.cell? ⟨b, o, none⟩) → walkQ P l.toArray w.drew (l.take q) (fun a' => walkF P l.toArray w.drew ann q ((l.drop q).take f) (fun a'' F => ∀ w', Ext w.drew w' → F w' → wpList P l.toArray Q (l.drop (q + f)) a'' w') a' (fun _ => True)) a) : (Code.region id l.toArray true).wp P Q a w :=
  wp_region_calm q f ann hm hB (h fun x b o hb => (ext_grow w.drew x).cells b o hb)
/-- a region without a tail -/
theorem wp_calm0 {id : Nat} {Q : Exit → Act → World → Prop} {a : Act} {w : World} {l : List Oper} (hm : P.follows .mixedOrders = true) (hB : Region.lexB .any l.toArray = true)
    (h : (∀ x b o, b < w.heap.size → (grow w.drew x).cell? ⟨b, o, none⟩ = w.cell? ⟨b, o, none⟩) → walkQ P l.toArray w.drew l (fun a' => ∀ w', Ext w.drew w' → Q .normal a' w') a) : (Code.region id l.toArray true).wp P Q a w := by
  refine wp_region_quiet (C := fun w' => Ext w.drew w') hm hB (Ext.refl _) ?_
  have key : ∀ (r : List Oper) (a : Act), walkQ P l.toArray w.drew r (fun a' => ∀ w', Ext w.drew w' → Q .normal a' w') a → wpQuiet P l.toArray (fun w' => Ext w.drew w') (fun a' => ∀ w', Ext w.drew w' → Q .normal a' w') r a := by
    intro r
    induction r with
    | nil => exact fun a h => h
    | cons o r ih =>
      intro a h
      simp only [walkQ] at h
      simp only [wpQuiet]
      split
      · rename_i hw
        rw [if_pos hw] at h
        obtain ⟨v, h1, h2⟩ := h
        refine ⟨v, fun w1 hx => ?_, ih _ h2⟩
        have h3 := h1 w1 hx
        unfold Oper.quietAt at *
        generalize (execOp a.eval o).run P w1 = z at *
        cases z with
        | ok m w' =>
          cases m <;> simp only [Oper.quietUpon] at h3 ⊢
          case enter f args => exact ⟨h3.1, h3.2.mono fun e w'' ⟨he, hx'⟩ => ⟨he, hx.trans hx'⟩⟩
          all_goals exact h3
        | halt x w' => simp only [Oper.quietUpon] at h3
      · rename_i hw
        rw [if_neg hw] at h
        exact ih _ h
  exact key l a (h fun x b o hb => (ext_grow w.drew x).cells b o hb)
/-- a region whose head leaves the very world -/
theorem wp_still {id : Nat} {Q : Exit → Act → World → Prop} {a : Act} {w : World} {l : List Oper} (n : Nat) (hm : P.follows .mixedOrders = true) (hB : Region.lexTailB .any l.toArray n = true)
    (h : wpStill P l.toArray w.drew (fun a' => wpList P l.toArray Q (l.drop n) a' w.drew) (l.take n) a) : (Code.region id l.toArray true).wp P Q a w :=
  wp_region_still_tail n hm hB h
theorem still_same {f : FuncId} {args : Array Value} {w : World} {v : Value} (h : Calls P f args w fun e w' => e = .returned v ∧ w = w') : Calls P f args w fun e w' => e = .returned v ∧ w' = w :=
  h.mono fun _ _ ⟨he, hw⟩ => ⟨he, hw.symm⟩
/-- a callee that leaves the world -/
theorem calm_same {f : FuncId} {args : Array Value} {w : World} {v : Value} (h : Calls P f args w fun e w' => e = .returned v ∧ w = w') : Calls P f args w fun e w' => e = .returned v ∧ Ext w w' :=
  h.mono fun _ _ ⟨he, hw⟩ => ⟨he, hw ▸ Ext.refl _⟩
end
attribute [irreducible] walkQ
end Go.Proofs.Ytlifhoajamnehaa
set_option linter.unusedVariables false
set_option linter.unusedSimpArgs false
set_option maxRecDepth 100000
set_option maxHeartbeats 1000000
namespace Go.Proofs.Ytlifhoajamnehaa
/-! plain mathematics: sets of 36 cells as numbers -/
/-- the number whose bits below m are told by f -/
def mkN (f : Nat → Bool) : Nat → Nat
  | 0 => 0
  | k + 1 => if f k = true then mkN f k ||| 2 ^ k else mkN f k

theorem testBit_mkN (f : Nat → Bool) (m j : Nat) : (mkN f m).testBit j = (decide (j < m) && f j) := by
  induction m with
  | zero => simp [mkN]
  | succ k ih =>
    rw [mkN]
    by_cases hj : j = k
    · subst hj
      cases h : f j <;> simp [h, Nat.testBit_or, ih]
    · have e : decide (j < k + 1) = decide (j < k) := by simp; omega
      have e2 : decide (k = j) = false := by simp; omega
      cases h : f k <;> simp [Nat.testBit_or, ih, Nat.testBit_two_pow, e, e2]

theorem mkN_lt (f : Nat → Bool) (m : Nat) : mkN f m < 2 ^ m := by
  induction m with
  | zero => simp [mkN]
  | succ k ih =>
    rw [mkN]
    have h1 : 2 ^ k < 2 ^ (k + 1) := Nat.pow_lt_pow_right (by omega) (by omega)
    split
    · exact Nat.or_lt_two_pow (by omega) h1
    · omega

theorem mk36_lt (f : Nat → Bool) : mkN f 36 < 68719476736 := mkN_lt f 36

theorem bit_ge {n m j : Nat} (h : n < 2 ^ m) (hj : m ≤ j) : n.testBit j = false :=
  Nat.testBit_lt_two_pow (Nat.lt_of_lt_of_le h (Nat.pow_le_pow_right (by omega) hj))

theorem ext36 {a b : Nat} (ha : a < 68719476736) (hb : b < 68719476736) (h : ∀ k, k < 36 → a.testBit k = b.testBit k) : a = b := by
  refine Nat.eq_of_testBit_eq fun i => ?_
  rcases Nat.lt_or_ge i 36 with h1 | h1
  · exact h i h1
  · rw [bit_ge (m := 36) ha h1, bit_ge (m := 36) hb h1]

theorem or36 {a b : Nat} (ha : a < 68719476736) (hb : b < 68719476736) : a ||| b < 68719476736 := Nat.or_lt_two_pow (n := 36) ha hb
theorem and36 {a : Nat} (b : Nat) (ha : a < 68719476736) : a &&& b < 68719476736 := Nat.lt_of_le_of_lt Nat.and_le_left ha
theorem xor36 {a b : Nat} (ha : a < 68719476736) (hb : b < 68719476736) : a ^^^ b < 68719476736 := Nat.xor_lt_two_pow (n := 36) ha hb
theorem pow36 {k : Nat} (h : k < 36) : 2 ^ k < 68719476736 := Nat.pow_lt_pow_right (m := k) (n := 36) (by omega) h

/-! rows -/
/-- the row y of a set -/
def rowN (n y : Nat) : Nat := n / 2 ^ (6 * y) % 64
/-- the row y, as a number of the program -/
@[irreducible] def rw (n y : Nat) : Int := (rowN n y : Nat)
theorem rowN_lt (n y : Nat) : rowN n y < 64 := Nat.mod_lt _ (by omega)
theorem rw_0 (n y : Nat) : 0 ≤ rw n y := by unfold rw; exact Int.natCast_nonneg _
theorem rw_63 (n y : Nat) : rw n y ≤ 63 := by have := rowN_lt n y; unfold rw; omega
theorem testBit_rowN (n y x : Nat) : (rowN n y).testBit x = (decide (x < 6) && n.testBit (6 * y + x)) := by
  unfold rowN
  rw [show (64 : Nat) = 2 ^ 6 from rfl, Nat.testBit_mod_two_pow, Nat.testBit_div_two_pow]
  rw [Nat.add_comm]

theorem row_ext {a b : Nat} (ha : a < 64) (hb : b < 64) (h : ∀ x, x < 6 → a.testBit x = b.testBit x) : a = b := by
  refine Nat.eq_of_testBit_eq fun i => ?_
  rcases Nat.lt_or_ge i 6 with h1 | h1
  · exact h i h1
  · rw [bit_ge (m := 6) ha h1, bit_ge (m := 6) hb h1]

/-- rows put together -/
def pkN (r : Nat → Nat) : Nat → Nat
  | 0 => 0
  | k + 1 => pkN r k ||| r k * 2 ^ (6 * k)

theorem testBit_mul_pow (a i j : Nat) : (a * 2 ^ i).testBit j = (decide (i ≤ j) && a.testBit (j - i)) := by
  rw [← Nat.shiftLeft_eq, Nat.testBit_shiftLeft]

theorem testBit_pkN (r : Nat → Nat) (hr : ∀ k, r k < 64) (m j : Nat) : (pkN r m).testBit j = (decide (j < 6 * m) && (r (j / 6)).testBit (j % 6)) := by
  induction m with
  | zero => simp [pkN]
  | succ k ih =>
    rw [pkN, Nat.testBit_or, ih, testBit_mul_pow]
    rcases Nat.lt_or_ge j (6 * k) with h | h
    · have e1 : decide (j < 6 * k) = true := by simpa using h
      have e2 : decide (6 * k ≤ j) = false := by simpa using h
      have e3 : decide (j < 6 * (k + 1)) = true := by simp; omega
      rw [e1, e2, e3]; simp
    · have e1 : decide (j < 6 * k) = false := by simpa using h
      have e2 : decide (6 * k ≤ j) = true := by simpa using h
      rw [e1, e2]
      rcases Nat.lt_or_ge j (6 * (k + 1)) with h2 | h2
      · have e3 : decide (j < 6 * (k + 1)) = true := by simpa using h2
        have e4 : j / 6 = k := by omega
        have e5 : j - 6 * k = j % 6 := by omega
        rw [e3, e4, e5]; simp
      · have e3 : decide (j < 6 * (k + 1)) = false := by simpa using h2
        rw [e3, bit_ge (m := 6) (hr k) (by omega)]; simp

theorem pkN_lt (r : Nat → Nat) (hr : ∀ k, r k < 64) (m : Nat) : pkN r m < 2 ^ (6 * m) := by
  induction m with
  | zero => simp [pkN]
  | succ k ih =>
    rw [pkN]
    have h1 : 2 ^ (6 * k) < 2 ^ (6 * (k + 1)) := Nat.pow_lt_pow_right (by omega) (by omega)
    refine Nat.or_lt_two_pow (by omega) ?_
    have := hr k
    have e : 2 ^ (6 * (k + 1)) = 64 * 2 ^ (6 * k) := by rw [show 6 * (k + 1) = 6 * k + 6 by omega, Nat.pow_add]; omega
    rw [e]
    exact Nat.mul_lt_mul_of_pos_right this (Nat.two_pow_pos _)

theorem rowN_pkN (r : Nat → Nat) (hr : ∀ k, r k < 64) (y : Nat) (hy : y < 6) : rowN (pkN r 6) y = r y := by
  refine row_ext (rowN_lt _ _) (hr y) fun x hx => ?_
  rw [testBit_rowN, testBit_pkN r hr]
  have e1 : (6 * y + x) / 6 = y := by omega
  have e2 : (6 * y + x) % 6 = x := by omega
  have e3 : 6 * y + x < 6 * 6 := by omega
  simp [e1, e2, e3, hx]

theorem pkN_rowN {n : Nat} (h : n < 68719476736) : pkN (rowN n) 6 = n := by
  refine ext36 (pkN_lt _ (rowN_lt n) 6) h fun k hk => ?_
  rw [testBit_pkN _ (rowN_lt n), testBit_rowN]
  have e1 : 6 * (k / 6) + k % 6 = k := by omega
  have e2 : k % 6 < 6 := by omega
  simp [e1, e2, hk]

/-- a valid sheet's rows -/
def okR (r : Nat → Int) : Prop := ∀ k, k < 6 → 0 ≤ r k ∧ r k ≤ 63

/-- a valid sheet is that of a set -/
theorem okR_set {r : Nat → Int} (h : okR r) : ∃ n, n < 68719476736 ∧ ∀ k, k < 6 → r k = rw n k := by
  let s : Nat → Nat := fun k => if k < 6 then (r k).toNat else 0
  have hs : ∀ k, s k < 64 := fun k => by
    show (if k < 6 then (r k).toNat else 0) < 64
    split
    · rename_i hk; have := h k hk; omega
    · omega
  refine ⟨pkN s 6, pkN_lt s hs 6, fun k hk => ?_⟩
  unfold rw
  rw [rowN_pkN s hs k hk]
  show r k = (((if k < 6 then (r k).toNat else 0 : Nat)) : Int)
  rw [if_pos hk]
  have := h k hk
  omega

/-! a set whose cells go to others -/
def mvN (n : Nat) (t : Nat → Nat) : Nat → Nat
  | 0 => 0
  | k + 1 => if n.testBit k = true then mvN n t k ||| 2 ^ t k else mvN n t k

theorem testBit_mvN (n : Nat) (t : Nat → Nat) (m j : Nat) : (mvN n t m).testBit j = true ↔ ∃ k, k < m ∧ n.testBit k = true ∧ t k = j := by
  induction m with
  | zero => simp [mvN]
  | succ i ih =>
    rw [mvN]
    by_cases hb : n.testBit i = true
    · rw [if_pos hb, Nat.testBit_or, Bool.or_eq_true, ih, Nat.testBit_two_pow]
      constructor
      · rintro (⟨k, h1, h2, h3⟩ | h)
        · exact ⟨k, by omega, h2, h3⟩
        · exact ⟨i, by omega, hb, by simpa using h⟩
      · rintro ⟨k, h1, h2, h3⟩
        by_cases e : k = i
        · subst e; exact .inr (by simpa using h3)
        · exact .inl ⟨k, by omega, h2, h3⟩
    · rw [if_neg hb, ih]
      constructor
      · rintro ⟨k, h1, h2, h3⟩; exact ⟨k, by omega, h2, h3⟩
      · rintro ⟨k, h1, h2, h3⟩
        by_cases e : k = i
        · subst e; exact absurd h2 hb
        · exact ⟨k, by omega, h2, h3⟩

theorem mvN_lt (n : Nat) (t : Nat → Nat) (m : Nat) (ht : ∀ k, k < m → t k < 36) : mvN n t m < 68719476736 := by
  induction m with
  | zero => simp [mvN]
  | succ i ih =>
    rw [mvN]
    split
    · exact or36 (ih fun k hk => ht k (by omega)) (pow36 (ht i (by omega)))
    · exact ih fun k hk => ht k (by omega)

/-! shifts -/
/-- from where a cell of a shifted set comes -/
def src (dx dy j : Nat) : Nat := (j % 6 + (6 - dx)) % 6 + 6 * ((j / 6 + (6 - dy)) % 6)
/-- where a cell goes -/
def tgt (dx dy k : Nat) : Nat := (k % 6 + dx) % 6 + 6 * ((k / 6 + dy) % 6)
theorem src_lt (dx dy j : Nat) : src dx dy j < 36 := by unfold src; omega
theorem tgt_lt (dx dy j : Nat) : tgt dx dy j < 36 := by unfold tgt; omega
theorem tgt_src {dx dy j : Nat} (hx : dx < 6) (hy : dy < 6) (hj : j < 36) : tgt dx dy (src dx dy j) = j := by unfold tgt src; omega
theorem src_tgt {dx dy j : Nat} (hx : dx < 6) (hy : dy < 6) (hj : j < 36) : src dx dy (tgt dx dy j) = j := by unfold tgt src; omega

/-- a shifted set -/
def sh (n dx dy : Nat) : Nat := mkN (fun j => n.testBit (src dx dy j)) 36
theorem sh_lt (n dx dy : Nat) : sh n dx dy < 68719476736 := mk36_lt _
theorem testBit_sh (n dx dy j : Nat) (hj : j < 36) : (sh n dx dy).testBit j = n.testBit (src dx dy j) := by
  unfold sh; rw [testBit_mkN]; simp [hj]

theorem mvN_sh (n dx dy : Nat) (hx : dx < 6) (hy : dy < 6) : mvN n (tgt dx dy) 36 = sh n dx dy := by
  refine ext36 (mvN_lt _ _ _ fun k _ => tgt_lt dx dy k) (sh_lt _ _ _) fun j hj => ?_
  rw [testBit_sh _ _ _ _ hj, Bool.eq_iff_iff, testBit_mvN]
  constructor
  · rintro ⟨k, h1, h2, h3⟩; rw [← h3, src_tgt hx hy h1]; exact h2
  · intro h; exact ⟨_, src_lt dx dy j, h, tgt_src hx hy hj⟩

/-! numbers of cells -/
def cntN (n : Nat) : Nat → Nat
  | 0 => 0
  | k + 1 => cntN n k + (if n.testBit k = true then 1 else 0)
/-- how many cells are black -/
def cnt (n : Nat) : Nat := cntN n 36
theorem cntN_le (n m : Nat) : cntN n m ≤ m := by
  induction m with
  | zero => simp [cntN]
  | succ k ih => rw [cntN]; split <;> omega
theorem cnt_le (n : Nat) : cnt n ≤ 36 := cntN_le n 36

/-- the numbers of all black cells -/
def lst (n m : Nat) : List Nat := (List.range m).filter n.testBit
theorem lst_succ (n k : Nat) : lst n (k + 1) = lst n k ++ (if n.testBit k = true then [k] else []) := by
  unfold lst
  rw [List.range_succ, List.filter_append]
  by_cases h : n.testBit k = true <;> simp [h]
theorem lst_length (n m : Nat) : (lst n m).length = cntN n m := by
  induction m with
  | zero => simp [lst, cntN]
  | succ k ih => rw [lst_succ, List.length_append, ih, cntN]; split <;> simp
end Go.Proofs.Ytlifhoajamnehaa
set_option linter.unusedVariables false
set_option linter.unusedSimpArgs false
set_option maxRecDepth 100000
set_option maxHeartbeats 1000000
namespace Go.Proofs.Ytlifhoajamnehaa
open Go Go.RowKit
/-! words of the walks -/
theorem ret_int {k : IntKind} {a b : Int} (h : a = b) : Ending.returned (.int k a) = .returned (.int k b) := by rw [h]
theorem ret_bool {a b : Bool} (h : a = b) : Ending.returned (.bool a) = .returned (.bool b) := by rw [h]
theorem val_int {k : IntKind} {a b : Int} (h : a = b) : Value.int k a = .int k b := by rw [h]

theorem ret2_int {k : IntKind} {a b : Int} {v : Value} (h : a = b) : Ending.returned (.tuple #[.int k a, v]) = .returned (.tuple #[.int k b, v]) := by rw [h]
theorem ret2_ints {k j : IntKind} {a b c d : Int} (h : a = b) (h' : c = d) : Ending.returned (.tuple #[.int k a, .int j c]) = .returned (.tuple #[.int k b, .int j d]) := by rw [h, h']
theorem nat_int {a b : Nat} (h : a = b) : (a : Int) = (b : Int) := by rw [h]

theorem sheet_eq {a0 a1 a2 a3 a4 a5 b0 b1 b2 b3 b4 b5 : Int} (h0 : a0 = b0) (h1 : a1 = b1) (h2 : a2 = b2) (h3 : a3 = b3) (h4 : a4 = b4) (h5 : a5 = b5) :
    Ending.returned (.agg #[.int .i64 a0, .int .i64 a1, .int .i64 a2, .int .i64 a3, .int .i64 a4, .int .i64 a5]) = .returned (.agg #[.int .i64 b0, .int .i64 b1, .int .i64 b2, .int .i64 b3, .int .i64 b4, .int .i64 b5]) := by rw [h0, h1, h2, h3, h4, h5]

/-! numbers of the kind u64 -/
theorem or64 {a b : Nat} (ha : a < 68719476736) (hb : b < 68719476736) : bits .or .u64 (a : Int) (b : Int) = ((a ||| b : Nat) : Int) := u64_or_nat a b (by omega) (by omega)
theorem and64 {a b : Nat} (ha : a < 68719476736) (hb : b < 68719476736) : bits .and .u64 (a : Int) (b : Int) = ((a &&& b : Nat) : Int) := u64_and_nat a b (by omega) (by omega)
/-- what a bit test reads -/
theorem has_bit (n k : Nat) (hn : n < 68719476736) : (bits .and .u64 ((n : Int) / 2 ^ k) 1 == 1) = n.testBit k := by
  have e : ((n : Int) / 2 ^ k) = ((n / 2 ^ k : Nat) : Int) := by simp
  have hle : n / 2 ^ k ≤ n := Nat.div_le_self _ _
  rw [e, show (1 : Int) = ((1 : Nat) : Int) from rfl, u64_and_nat _ _ (by omega) (by omega), nat_mask1, Nat.testBit_eq_decide_div_mod_eq, Bool.eq_iff_iff]
  simp
  omega
theorem bit_put (k : Nat) (hk : k < 36) : IntKind.u64.wrap (2 ^ k) = ((2 ^ k : Nat) : Int) := by
  have := pow36 hk
  rw [show ((2 : Int) ^ k) = ((2 ^ k : Nat) : Int) by simp]
  refine IntWalk.u64_in _ ⟨Int.natCast_nonneg _, ?_⟩
  generalize 2 ^ k = m at *
  omega
/-- what is left by 6 -/
def m6 (n : Int) : Nat := (n % 6).toNat
theorem m6_lt (n : Int) : m6 n < 6 := by unfold m6; omega
theorem m6_eq (n : Int) : ((m6 n : Nat) : Int) = n % 6 := by unfold m6; omega
theorem rest_val (n : Int) : (wrap64 (n.tmod 6 + 6)).tmod 6 = n % 6 := by
  have h1 := Int.tmod_lt_of_pos n (show (0 : Int) < 6 by omega)
  have h2 := Int.lt_tmod_of_pos n (show (0 : Int) < 6 by omega)
  rw [IntWalk.wrap64_in _ (by omega), Int.tmod_eq_emod_of_nonneg (by omega)]
  rcases Int.le_total 0 n with h | h
  · rw [Int.tmod_eq_emod_of_nonneg h]; omega
  · rw [Int.tmod_eq_emod]; split <;> omega
theorem get6 (r : Nat → Int) (k : Nat) (hk : k < 6) : (#[.int .i64 (r 0), .int .i64 (r 1), .int .i64 (r 2), .int .i64 (r 3), .int .i64 (r 4), .int .i64 (r 5)] : Array Value)[k]? = some (.int .i64 (r k)) := by
  match k, hk with
  | 0, _ => rfl
  | 1, _ => rfl
  | 2, _ => rfl
  | 3, _ => rfl
  | 4, _ => rfl
  | 5, _ => rfl
theorem cell6_at (w : World) (r : Nat → Int) (t : TypeId) (k : Nat) (hk : k < 6) : (w.alloc (.cells #[.int .i64 (r 0), .int .i64 (r 1), .int .i64 (r 2), .int .i64 (r 3), .int .i64 (r 4), .int .i64 (r 5)] t)).cell? ⟨w.heap.size, k, none⟩ = some (.int .i64 (r k)) := (World.cell?_alloc_at (w := w) _ _ _ _ rfl).trans (get6 r k hk)
/-! an array of six numbers in memory -/
def Arr (w : World) (b : Nat) (g : Nat → Int) : Prop := ∀ j, j < 6 → w.cell? ⟨b, j, none⟩ = some (.int .i64 (g j)) ∧ w.frozen? ⟨b, j, none⟩ = false
theorem Arr.set {w : World} {b : Nat} {g : Nat → Int} (h : Arr w b g) {p : Nat} (hp : p < 6) (v : Int) : Arr (w.setCell ⟨b, p, none⟩ (.int .i64 v)) b (fun j => if j = p then v else g j) := by
  intro j hj
  refine ⟨?_, by rw [World.frozen?_setCell]; exact (h j hj).2⟩
  by_cases e : j = p
  · subst e
    show _ = some (Value.int .i64 (if j = j then v else g j))
    rw [if_pos rfl]
    exact World.cell?_setCell_same _ _ _ (h j hj).1
  · show _ = some (Value.int .i64 (if j = p then v else g j))
    rw [if_neg e]
    exact (World.cell?_setCell_other _ _ _ _ (by intro h; injection h with _ h2; exact e h2.symm)).trans (h j hj).1
theorem Arr.far {w : World} {b : Nat} {g : Nat → Int} (h : Arr w b g) {p : Addr} (hp : p.block ≠ b) (v : Value) : Arr (w.setCell p v) b g := fun j hj =>
  ⟨(World.cell?_setCell_other _ _ _ _ (by intro h; subst h; exact hp rfl)).trans (h j hj).1, by rw [World.frozen?_setCell]; exact (h j hj).2⟩
theorem Arr.drew {w : World} {b : Nat} {g : Nat → Int} (h : Arr w b g) : Arr w.drew b g := h
theorem Arr.drewN {w : World} {b : Nat} {g : Nat → Int} (h : Arr w b g) (n : Nat) : Arr (w.drewN n) b g := h
theorem Arr.ext {w w' : World} {b : Nat} {g : Nat → Int} (h : Arr w b g) (hx : Ext w w') (hb : b < w.heap.size) : Arr w' b g := fun j hj =>
  ⟨(hx.cells _ _ hb).trans (h j hj).1, (hx.frees _ _ hb).trans (h j hj).2⟩
theorem Arr.alloc {w : World} {b : Nat} {g : Nat → Int} (h : Arr w b g) (o : Obj) (hb : b < w.heap.size) : Arr (w.alloc o) b g := h.ext ((Ext.refl w).alloc o) hb
theorem Arr.new (w : World) (r : Nat → Int) (t : TypeId) {b : Nat} (hb : b = w.heap.size) : Arr (w.alloc (.cells #[.int .i64 (r 0), .int .i64 (r 1), .int .i64 (r 2), .int .i64 (r 3), .int .i64 (r 4), .int .i64 (r 5)] t)) b r := fun j hj => by
  subst hb
  exact ⟨cell6_at w r t j hj, World.frozen?_alloc_at (w := w) _ _ _ _ rfl⟩
theorem Arr.new0 (w : World) (t : TypeId) {b : Nat} (hb : b = w.heap.size) : Arr (w.alloc (.cells #[.int .i64 0, .int .i64 0, .int .i64 0, .int .i64 0, .int .i64 0, .int .i64 0] t)) b (fun _ => 0) := Arr.new w (fun _ => 0) t hb
theorem Arr.all {w : World} {b : Nat} {g : Nat → Int} (h : Arr w b g) : (w.cell? ⟨b, 0, none⟩ = some (.int .i64 (g 0)) ∧ w.cell? ⟨b, 1, none⟩ = some (.int .i64 (g 1)) ∧ w.cell? ⟨b, 2, none⟩ = some (.int .i64 (g 2)) ∧ w.cell? ⟨b, 3, none⟩ = some (.int .i64 (g 3)) ∧ w.cell? ⟨b, 4, none⟩ = some (.int .i64 (g 4)) ∧ w.cell? ⟨b, 5, none⟩ = some (.int .i64 (g 5))) ∧
    w.frozen? ⟨b, 0, none⟩ = false ∧ w.frozen? ⟨b, 1, none⟩ = false ∧ w.frozen? ⟨b, 2, none⟩ = false ∧ w.frozen? ⟨b, 3, none⟩ = false ∧ w.frozen? ⟨b, 4, none⟩ = false ∧ w.frozen? ⟨b, 5, none⟩ = false :=
  ⟨⟨(h 0 (by omega)).1, (h 1 (by omega)).1, (h 2 (by omega)).1, (h 3 (by omega)).1, (h 4 (by omega)).1, (h 5 (by omega)).1⟩, (h 0 (by omega)).2, (h 1 (by omega)).2, (h 2 (by omega)).2, (h 3 (by omega)).2, (h 4 (by omega)).2, (h 5 (by omega)).2⟩
theorem Arr.store6 {w : World} {b : Nat} {g : Nat → Int} (h : Arr w b g) (v : Nat → Int) : ((((((w.setCell ⟨b, 0, none⟩ (.int .i64 (v 0))).setCell ⟨b, 1, none⟩ (.int .i64 (v 1))).setCell ⟨b, 2, none⟩ (.int .i64 (v 2))).setCell ⟨b, 3, none⟩ (.int .i64 (v 3))).setCell ⟨b, 4, none⟩ (.int .i64 (v 4))).setCell ⟨b, 5, none⟩ (.int .i64 (v 5))).cell? ⟨b, 0, none⟩ = some (.int .i64 (v 0)) ∧ ((((((w.setCell ⟨b, 0, none⟩ (.int .i64 (v 0))).setCell ⟨b, 1, none⟩ (.int .i64 (v 1))).setCell ⟨b, 2, none⟩ (.int .i64 (v 2))).setCell ⟨b, 3, none⟩ (.int .i64 (v 3))).setCell ⟨b, 4, none⟩ (.int .i64 (v 4))).setCell ⟨b, 5, none⟩ (.int .i64 (v 5))).cell? ⟨b, 1, none⟩ = some (.int .i64 (v 1)) ∧ ((((((w.setCell ⟨b, 0, none⟩ (.int .i64 (v 0))).setCell ⟨b, 1, none⟩ (.int .i64 (v 1))).setCell ⟨b, 2, none⟩ (.int .i64 (v 2))).setCell ⟨b, 3, none⟩ (.int .i64 (v 3))).setCell ⟨b, 4, none⟩ (.int .i64 (v 4))).setCell ⟨b, 5, none⟩ (.int .i64 (v 5))).cell? ⟨b, 2, none⟩ = some (.int .i64 (v 2)) ∧ ((((((w.setCell ⟨b, 0, none⟩ (.int .i64 (v 0))).setCell ⟨b, 1, none⟩ (.int .i64 (v 1))).setCell ⟨b, 2, none⟩ (.int .i64 (v 2))).setCell ⟨b, 3, none⟩ (.int .i64 (v 3))).setCell ⟨b, 4, none⟩ (.int .i64 (v 4))).setCell ⟨b, 5, none⟩ (.int .i64 (v 5))).cell? ⟨b, 3, none⟩ = some (.int .i64 (v 3)) ∧ ((((((w.setCell ⟨b, 0, none⟩ (.int .i64 (v 0))).setCell ⟨b, 1, none⟩ (.int .i64 (v 1))).setCell ⟨b, 2, none⟩ (.int .i64 (v 2))).setCell ⟨b, 3, none⟩ (.int .i64 (v 3))).setCell ⟨b, 4, none⟩ (.int .i64 (v 4))).setCell ⟨b, 5, none⟩ (.int .i64 (v 5))).cell? ⟨b, 4, none⟩ = some (.int .i64 (v 4)) ∧ ((((((w.setCell ⟨b, 0, none⟩ (.int .i64 (v 0))).setCell ⟨b, 1, none⟩ (.int .i64 (v 1))).setCell ⟨b, 2, none⟩ (.int .i64 (v 2))).setCell ⟨b, 3, none⟩ (.int .i64 (v 3))).setCell ⟨b, 4, none⟩ (.int .i64 (v 4))).setCell ⟨b, 5, none⟩ (.int .i64 (v 5))).cell? ⟨b, 5, none⟩ = some (.int .i64 (v 5)) :=
  ((((((h.set (p := 0) (by omega) (v 0)).set (p := 1) (by omega) (v 1)).set (p := 2) (by omega) (v 2)).set (p := 3) (by omega) (v 3)).set (p := 4) (by omega) (v 4)).set (p := 5) (by omega) (v 5)).all.1
theorem Arr.six {w : World} {b : Nat} {g : Nat → Int} (h : Arr w b g) (v : Nat → Int) : Arr (((((((w.setCell ⟨b, 0, none⟩ (.int .i64 (v 0))).setCell ⟨b, 1, none⟩ (.int .i64 (v 1))).setCell ⟨b, 2, none⟩ (.int .i64 (v 2))).setCell ⟨b, 3, none⟩ (.int .i64 (v 3))).setCell ⟨b, 4, none⟩ (.int .i64 (v 4))).setCell ⟨b, 5, none⟩ (.int .i64 (v 5)))) b v :=
  fun j hj => ⟨(by
    obtain ⟨r0, r1, r2, r3, r4, r5⟩ := h.store6 v
    match j, hj with
    | 0, _ => exact r0
    | 1, _ => exact r1
    | 2, _ => exact r2
    | 3, _ => exact r3
    | 4, _ => exact r4
    | 5, _ => exact r5), by simp only [World.frozen?_setCell]; exact (h j hj).2⟩
theorem Arr.congr {w : World} {b : Nat} {g h : Nat → Int} (a : Arr w b g) (e : ∀ j, j < 6 → g j = h j) : Arr w b h := fun j hj => by rw [← e j hj]; exact a j hj
/-! an array of two numbers -/
def Arr2 (w : World) (b : Nat) (g : Nat → Int) : Prop := ∀ j, j < 2 → w.cell? ⟨b, j, none⟩ = some (.int .i64 (g j)) ∧ w.frozen? ⟨b, j, none⟩ = false
theorem Arr2.ext {w w' : World} {b : Nat} {g : Nat → Int} (h : Arr2 w b g) (hx : Ext w w') (hb : b < w.heap.size) : Arr2 w' b g := fun j hj =>
  ⟨(hx.cells _ _ hb).trans (h j hj).1, (hx.frees _ _ hb).trans (h j hj).2⟩
theorem Arr2.new (w : World) (g : Nat → Int) (t : TypeId) {b : Nat} (hb : b = w.heap.size) : Arr2 (w.alloc (.cells #[.int .i64 (g 0), .int .i64 (g 1)] t)) b g := fun j hj => by
  subst hb
  refine ⟨(World.cell?_alloc_at (w := w) _ _ _ _ rfl).trans ?_, World.frozen?_alloc_at (w := w) _ _ _ _ rfl⟩
  match j, hj with
  | 0, _ => rfl
  | 1, _ => rfl
theorem Arr2.set {w : World} {b : Nat} {g : Nat → Int} (h : Arr2 w b g) {p : Nat} (hp : p < 2) (v : Int) : Arr2 (w.setCell ⟨b, p, none⟩ (.int .i64 v)) b (fun j => if j = p then v else g j) := by
  intro j hj
  refine ⟨?_, by rw [World.frozen?_setCell]; exact (h j hj).2⟩
  by_cases e : j = p
  · subst e
    show _ = some (Value.int .i64 (if j = j then v else g j))
    rw [if_pos rfl]
    exact World.cell?_setCell_same _ _ _ (h j hj).1
  · show _ = some (Value.int .i64 (if j = p then v else g j))
    rw [if_neg e]
    exact (World.cell?_setCell_other _ _ _ _ (by intro h; injection h with _ h2; exact e h2.symm)).trans (h j hj).1
theorem Arr2.far {w : World} {b : Nat} {g : Nat → Int} (h : Arr2 w b g) {p : Addr} (hp : p.block ≠ b) (v : Value) : Arr2 (w.setCell p v) b g := fun j hj =>
  ⟨(World.cell?_setCell_other _ _ _ _ (by intro h; subst h; exact hp rfl)).trans (h j hj).1, by rw [World.frozen?_setCell]; exact (h j hj).2⟩
theorem Arr2.all {w : World} {b : Nat} {g : Nat → Int} (h : Arr2 w b g) : (w.cell? ⟨b, 0, none⟩ = some (.int .i64 (g 0)) ∧ w.cell? ⟨b, 1, none⟩ = some (.int .i64 (g 1))) ∧ w.frozen? ⟨b, 0, none⟩ = false ∧ w.frozen? ⟨b, 1, none⟩ = false :=
  ⟨⟨(h 0 (by omega)).1, (h 1 (by omega)).1⟩, (h 0 (by omega)).2, (h 1 (by omega)).2⟩
theorem Arr2.two {w : World} {b : Nat} {g : Nat → Int} (h : Arr2 w b g) (x y : Int) : Arr2 ((w.setCell ⟨b, 0, none⟩ (.int .i64 x)).setCell ⟨b, 1, none⟩ (.int .i64 y)) b (fun j => if j = 1 then y else x) := fun j hj => by
  have k := ((h.set (p := 0) (by omega) x).set (p := 1) (by omega) y) j hj
  match j, hj with
  | 0, _ => exact k
  | 1, _ => exact k
theorem load_two {w : World} {b : Nat} {v : Nat → Int} (h : Arr2 w b v) : (loadVar 33 ⟨b, 0, none⟩).run Try.prog w = .ok (.agg #[.int .i64 (v 0), .int .i64 (v 1)]) w := by
  obtain ⟨⟨r0, r1⟩, _⟩ := h.all
  simp [go_sem, r0, r1]
theorem load_sheet {w : World} {b : Nat} {v : Nat → Int} (h : Arr w b v) : (loadVar 26 ⟨b, 0, none⟩).run Try.prog w = .ok (.agg #[.int .i64 (v 0), .int .i64 (v 1), .int .i64 (v 2), .int .i64 (v 3), .int .i64 (v 4), .int .i64 (v 5)]) w := by
  obtain ⟨⟨r0, r1, r2, r3, r4, r5⟩, _⟩ := h.all
  simp [go_sem, r0, r1, r2, r3, r4, r5]
theorem ret_cell {P : Program} {fn : Func} {p : Tmp} {ty : TypeId} {tmps : Array Value} {a : Addr} {v : Value} {w : World} (h : fn.results = #[.cell p ty]) (hp : tmps.getD p undef = .pointer (some a)) (hl : (loadVar ty a).run P w = .ok v w) : (results fn tmps).run P w = .ok v w := by
  have hp' : tmps[p]?.getD undef = .pointer (some a) := by simpa using hp
  simp only [results, h]
  have e : (asAddr (.pointer (some a))).run P w = .ok a w := rfl
  simp [Sem.run_bind, Result.andThen, hp', hl, e]
theorem ret_cell_tmp {P : Program} {fn : Func} {p u : Tmp} {ty : TypeId} {tmps : Array Value} {a : Addr} {v x : Value} {w : World} (h : fn.results = #[.cell p ty, .tmp u]) (hp : tmps.getD p undef = .pointer (some a)) (hx : tmps.getD u undef = x) (hl : (loadVar ty a).run P w = .ok v w) : (results fn tmps).run P w = .ok (.tuple #[v, x]) w := by
  have hp' : tmps[p]?.getD undef = .pointer (some a) := by simpa using hp
  have hx' : tmps[u]?.getD undef = x := by simpa using hx
  simp only [results, h]
  have e : (asAddr (.pointer (some a))).run P w = .ok a w := rfl
  simp [Sem.run_bind, Result.andThen, hp', hl, hx', e]
def inR (x a b : Int) : Bool := decide (a ≤ x) && decide (x ≤ b)
theorem inR_iff (x a b : Int) : inR x a b = true ↔ a ≤ x ∧ x ≤ b := by unfold inR; rw [Bool.and_eq_true, decide_eq_true_eq, decide_eq_true_eq]
theorem l1In_any (x a b : Int) (w : World) : Calls Try.prog 95 #[.int .i64 x, .int .i64 a, .int .i64 b] w fun e w' => e = .returned (.bool (inR x a b)) ∧ w = w' := by
  go_enter Try.func95, Try.ntmps95
  go_wp2
  all_goals (go_ret; exact ⟨ret_bool (by unfold inR; simp; omega), rfl⟩)
theorem l1In_is (x a c : Int) (b : Bool) (h : inR x a c = b) (w : World) : Calls Try.prog 95 #[.int .i64 x, .int .i64 a, .int .i64 c] w fun e w' => e = .returned (.bool b) ∧ w = w' := h ▸ l1In_any x a c w
theorem l2Mod_any (n : Int) (w : World) : Calls Try.prog 138 #[.int .i64 n] w fun e w' => e = .returned (.int .i64 ((m6 n : Nat) : Int)) ∧ w = w' := by
  go_enter Try.func138, Try.ntmps138
  go_wp2
  go_ret
  exact ⟨ret_int ((rest_val n).trans (m6_eq n).symm), rfl⟩
theorem rest_any (n : Int) (w : World) : Calls Try.prog 140 #[.int .i64 n] w fun e w' => e = .returned (.int .i64 ((m6 n : Nat) : Int)) ∧ w = w' := by
  go_enter Try.func140, Try.ntmps140
  go_wp2
  go_ret
  exact ⟨ret_int ((rest_val n).trans (m6_eq n).symm), rfl⟩
theorem has_any (n k : Nat) (hn : n < 68719476736) (hk : k < 36) (w : World) : Calls Try.prog 157 #[.int .u64 (n : Int), .int .i64 (k : Int)] w fun e w' => e = .returned (.bool (n.testBit k)) ∧ w = w' := by
  go_enter Try.func157, Try.ntmps157
  go_wp2
  go_ret
  exact ⟨ret_bool (has_bit n k hn), rfl⟩
end Go.Proofs.Ytlifhoajamnehaa
set_option linter.unusedVariables false
set_option linter.unusedSimpArgs false
set_option maxRecDepth 100000
set_option maxHeartbeats 1000000
namespace Go.Proofs.Ytlifhoajamnehaa
open Go Go.RowKit
/-! bits of ints -/
theorem ofInt64 (a : Nat) (ha : a < 9223372036854775808) : (BitVec.ofInt 64 (a : Int)).toNat = a := by
  rw [BitVec.ofInt_natCast, BitVec.toNat_ofNat]; exact Nat.mod_eq_of_lt (by omega)
theorem iand (a b : Nat) (ha : a < 9223372036854775808) (hb : b < 9223372036854775808) : bits .and .i64 (a : Int) (b : Int) = ((a &&& b : Nat) : Int) := by
  have hx : a &&& b < 2 ^ 63 := Nat.and_lt_two_pow _ (by omega)
  show IntKind.i64.wrap ((BitVec.ofInt 64 (a : Int) &&& BitVec.ofInt 64 (b : Int)).toNat : Int) = _
  rw [BitVec.toNat_and, ofInt64 a ha, ofInt64 b hb, IntKind.wrap_i64]
  omega
theorem ior (a b : Nat) (ha : a < 9223372036854775808) (hb : b < 9223372036854775808) : bits .or .i64 (a : Int) (b : Int) = ((a ||| b : Nat) : Int) := by
  have hx : a ||| b < 2 ^ 63 := Nat.or_lt_two_pow (by omega) (by omega)
  show IntKind.i64.wrap ((BitVec.ofInt 64 (a : Int) ||| BitVec.ofInt 64 (b : Int)).toNat : Int) = _
  rw [BitVec.toNat_or, ofInt64 a ha, ofInt64 b hb, IntKind.wrap_i64]
  omega
theorem ixor (a b : Nat) (ha : a < 9223372036854775808) (hb : b < 9223372036854775808) : bits .xor .i64 (a : Int) (b : Int) = ((a ^^^ b : Nat) : Int) := by
  have hx : a ^^^ b < 2 ^ 63 := Nat.xor_lt_two_pow (by omega) (by omega)
  show IntKind.i64.wrap ((BitVec.ofInt 64 (a : Int) ^^^ BitVec.ofInt 64 (b : Int)).toNat : Int) = _
  rw [BitVec.toNat_xor, ofInt64 a ha, ofInt64 b hb, IntKind.wrap_i64]
  omega
theorem rw_nat (n y : Nat) : rw n y = (rowN n y : Nat) := by unfold rw; rfl
theorem get_bit (n x y : Nat) (hx : x < 6) : (bits .and .i64 (rw n y / 2 ^ x) 1 == 1) = n.testBit (6 * y + x) := by
  have h := rowN_lt n y
  have e : rw n y / 2 ^ x = ((rowN n y / 2 ^ x : Nat) : Int) := by unfold rw; simp
  have hle : rowN n y / 2 ^ x ≤ rowN n y := Nat.div_le_self _ _
  have hb := testBit_rowN n y x
  rw [Nat.testBit_eq_decide_div_mod_eq] at hb
  rw [e, show (1 : Int) = ((1 : Nat) : Int) from rfl, iand _ _ (by omega) (by omega), nat_mask1]
  have h6 : decide (x < 6) = true := by simpa using hx
  rw [h6, Bool.true_and] at hb
  rw [← hb]
  rcases Nat.mod_two_eq_zero_or_one (rowN n y / 2 ^ x) with h2 | h2 <;> rw [h2] <;> rfl
/-! the rows of a set that is made out of others -/
theorem rw_row {a : Nat} {n y : Nat} (h : ∀ x, x < 6 → a.testBit x = n.testBit (6 * y + x)) (ha : a < 64) : (a : Int) = rw n y := by
  unfold rw
  refine nat_int (row_ext ha (rowN_lt n y) fun x hx => ?_)
  rw [h x hx, testBit_rowN]
  simp [hx]
theorem or_row (a b y : Nat) : bits .or .i64 (rw a y) (rw b y) = rw (a ||| b) y := by
  have h1 := rowN_lt a y
  have h2 := rowN_lt b y
  rw [rw_nat, rw_nat, ior _ _ (by omega) (by omega)]
  exact rw_row (fun x hx => by rw [Nat.testBit_or, Nat.testBit_or, testBit_rowN, testBit_rowN]; simp [hx]) (Nat.or_lt_two_pow (n := 6) h1 h2)
theorem and_row (a b y : Nat) : bits .and .i64 (rw a y) (rw b y) = rw (a &&& b) y := by
  have h1 := rowN_lt a y
  have h2 := rowN_lt b y
  rw [rw_nat, rw_nat, iand _ _ (by omega) (by omega)]
  exact rw_row (fun x hx => by rw [Nat.testBit_and, Nat.testBit_and, testBit_rowN, testBit_rowN]; simp [hx]) (Nat.lt_of_le_of_lt Nat.and_le_left h1)
/-- all cells that are not in a set -/
def cmp (n : Nat) : Nat := mkN (fun k => !n.testBit k) 36
theorem testBit_cmp (n k : Nat) (hk : k < 36) : (cmp n).testBit k = !n.testBit k := by unfold cmp; rw [testBit_mkN]; simp [hk]
theorem flip_row (n x y : Nat) (hx : x < 6) (hy : y < 6) : bits .xor .i64 (rw n y) (IntKind.i64.wrap (2 ^ x)) = rw (n ^^^ 2 ^ (6 * y + x)) y := by
  have h1 := rowN_lt n y
  have h2 : 2 ^ x < 2 ^ 6 := Nat.pow_lt_pow_right (by omega) hx
  have e : IntKind.i64.wrap (2 ^ x) = ((2 ^ x : Nat) : Int) := by
    rw [show ((2 : Int) ^ x) = ((2 ^ x : Nat) : Int) by simp]
    refine IntWalk.i64_in _ ⟨by have := Int.natCast_nonneg (2 ^ x); omega, ?_⟩
    generalize 2 ^ x = m at *
    omega
  rw [e, rw_nat, ixor _ _ (by omega) (by omega)]
  refine rw_row (fun j hj => ?_) (Nat.xor_lt_two_pow (n := 6) h1 h2)
  rw [Nat.testBit_xor, Nat.testBit_xor, testBit_rowN, Nat.testBit_two_pow, Nat.testBit_two_pow]
  have : decide (x = j) = decide (6 * y + x = 6 * y + j) := by simp
  rw [this]
  simp [hj]
theorem flip_other (n x y j : Nat) (hx : x < 6) (hj : j ≠ y) : rw n j = rw (n ^^^ 2 ^ (6 * y + x)) j := by
  rw [rw_nat n j]
  refine rw_row (fun i hi => ?_) (rowN_lt n j)
  rw [Nat.testBit_xor, testBit_rowN, Nat.testBit_two_pow]
  have : decide (6 * y + x = 6 * j + i) = false := by simp; omega
  rw [this]
  simp [hi]
theorem shl_or : ∀ a, a < 64 → ∀ x, x < 6 → ∀ j, j < 6 → (a * 2 ^ x % 64 ||| a / 2 ^ (6 - x)).testBit j = a.testBit ((j + (6 - x)) % 6) := by decide +kernel
theorem shift_row (n i x y : Nat) (hi : i < 6) (hx : x < 6) (hy : y < 6) : bits .or .i64 (bits .and .i64 (IntKind.i64.wrap (rw n i * 2 ^ x)) 63) (rw n i / 2 ^ (6 - x)) = rw (sh n x y) ((i + y) % 6) := by
  have h1 := rowN_lt n i
  have h2 : 2 ^ x < 2 ^ 6 := Nat.pow_lt_pow_right (by omega) hx
  have h3 : rowN n i * 2 ^ x < 64 * 64 := Nat.mul_lt_mul_of_lt_of_le h1 (by omega) (by omega)
  have h4 : rowN n i / 2 ^ (6 - x) ≤ rowN n i := Nat.div_le_self _ _
  have e1 : rw n i * 2 ^ x = ((rowN n i * 2 ^ x : Nat) : Int) := by unfold rw; simp
  have e2 : rw n i / 2 ^ (6 - x) = ((rowN n i / 2 ^ (6 - x) : Nat) : Int) := by unfold rw; simp
  rw [e1, e2, IntWalk.i64_in _ ⟨by have := Int.natCast_nonneg (rowN n i * 2 ^ x); omega, by omega⟩, show (63 : Int) = ((63 : Nat) : Int) from rfl, iand _ _ (by omega) (by omega), nat_mask6, ior _ _ (by omega) (by omega)]
  refine rw_row (fun j hj => ?_) (Nat.or_lt_two_pow (n := 6) (Nat.mod_lt _ (by omega)) (by omega))
  rw [shl_or _ h1 x hx j hj, testBit_rowN, testBit_sh _ _ _ _ (by omega)]
  have : src x y (6 * ((i + y) % 6) + j) = 6 * i + (j + (6 - x)) % 6 := by unfold src; omega
  rw [this]
  have h5 : decide ((j + (6 - x)) % 6 < 6) = true := by simp; omega
  rw [h5, Bool.true_and]
/-! counting -/
theorem cntN_bit (n k : Nat) : cntN n (k + 1) = cntN n k + n / 2 ^ k % 2 := by
  rw [cntN, Nat.testBit_eq_decide_div_mod_eq]
  have := Nat.mod_two_eq_zero_or_one (n / 2 ^ k)
  rcases this with h | h <;> simp [h]
theorem row_bit (n k j : Nat) (hj : j < 6) : rowN n k / 2 ^ j % 2 = n / 2 ^ (6 * k + j) % 2 := by
  have h1 := testBit_rowN n k j
  rw [Nat.testBit_eq_decide_div_mod_eq, Nat.testBit_eq_decide_div_mod_eq] at h1
  have h6 : decide (j < 6) = true := by simpa using hj
  rw [h6, Bool.true_and] at h1
  have a := Nat.mod_two_eq_zero_or_one (rowN n k / 2 ^ j)
  have b := Nat.mod_two_eq_zero_or_one (n / 2 ^ (6 * k + j))
  rcases a with a | a <;> rcases b with b | b <;> simp [a, b] at h1 ⊢
theorem cnt_rest (n k j : Nat) (hj : j ≤ 6) (h : rowN n k / 2 ^ j = 0) : cntN n (6 * k + j) = cntN n (6 * k + 6) := by
  have step : ∀ d i, i + d = 6 → j ≤ i → cntN n (6 * k + i) = cntN n (6 * k + 6) := by
    intro d
    induction d with
    | zero => intro i h1 _; rw [show i = 6 by omega]
    | succ d ih =>
      intro i h1 h2
      rw [← ih (i + 1) (by omega) (by omega), show 6 * k + (i + 1) = 6 * k + i + 1 by omega, cntN_bit, ← row_bit n k i (by omega)]
      have : rowN n k / 2 ^ i = 0 := by
        have e : 2 ^ i = 2 ^ j * 2 ^ (i - j) := by rw [← Nat.pow_add]; congr 1; omega
        rw [e, ← Nat.div_div_eq_div_mul, h, Nat.zero_div]
      rw [this, Nat.zero_mod, Nat.add_zero]
  exact step (6 - j) j (by omega) (Nat.le_refl _)
end Go.Proofs.Ytlifhoajamnehaa
