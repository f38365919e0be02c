/- Reg: contracts of functions, and lemmas, for this seat. Conditions: as each states. -/
import Derived.WalkKit
import Derived.Handy
import Derived.StillTail
import Derived.Deep.QuietTactic
import Derived.BigQuiet
set_option linter.unusedVariables false
set_option maxRecDepth 100000
set_option maxHeartbeats 1000000
namespace Go.Proofs.Ytlifhoajamnehaa
open Go Go.RowKit
/-! what was there stays -/
def Ext (a w : World) : Prop := Below a.heap.size a w
section
variable {a b c w : World}
theorem Ext.refl (w : World) : Ext w w := Below.refl _ _
theorem Ext.size (h : Ext a w) : a.heap.size ≤ w.heap.size := Below.size h
theorem Ext.trans (h : Ext a b) (k : Ext b c) : Ext a c := Below.trans h (Below.mono k (Below.size h))
theorem Ext.alloc (h : Ext a w) (o : Obj) : Ext a (w.alloc o) := Below.alloc h (Below.size h) o
theorem Ext.drew (h : Ext a w) : Ext a w.drew := Below.drew h
theorem Ext.drewN (h : Ext a w) (n : Nat) : Ext a (w.drewN n) := have k : Below a.heap.size a w := h
  ⟨k.os, k.tape, k.output, k.size, k.block⟩
theorem Ext.setCell (h : Ext a w) {p : Addr} (hp : a.heap.size ≤ p.block) (u : Value) : Ext a (w.setCell p u) := Below.setCell h hp u
theorem Ext.below (h : Ext a w) : Below a.heap.size a w := h
theorem Ext.of (h : Below a.heap.size a w) : Ext a w := h
theorem Ext.cells (h : Ext a w) : ∀ b o, b < a.heap.size → w.cell? ⟨b, o, none⟩ = a.cell? ⟨b, o, none⟩ := fun b o hb => Below.cell (p := ⟨b, o, none⟩) h hb
theorem Ext.frees (h : Ext a w) : ∀ b o, b < a.heap.size → w.frozen? ⟨b, o, none⟩ = a.frozen? ⟨b, o, none⟩ := fun b o hb => Below.frozen (p := ⟨b, o, none⟩) h hb
theorem Ext.at (h : Ext a w) {b : Nat} (hb : b < a.heap.size) : w.heap[b]? = a.heap[b]? := Below.block h b hb
end

/-! a statement whose order is open: first what only computes, reads or calls (calls may make memory), then new blocks, then what stands in one order -/
/-- a new block, not there in W -/
def Fresh (W : World) (c : Array Value × TypeId) (v : Value) (w : World) : Prop :=
  ∃ b, v = .pointer (some ⟨b, 0, none⟩) ∧ W.heap.size ≤ b ∧ w.heap[b]? = some (.cells c.1 c.2)
def Stable (F : World → Prop) : Prop := ∀ w w', Ext w w' → F w → F w'
theorem fresh_stable (W : World) (c : Array Value × TypeId) (v : Value) : Stable (Fresh W c v) := fun w w' hx ⟨b, h1, h2, h3⟩ => by
  have hb : b < w.heap.size := by
    rcases Nat.lt_or_ge b w.heap.size with h | h
    · exact h
    · rw [Array.getElem?_eq_none h] at h3; cases h3
  exact ⟨b, h1, h2, (hx.at hb).trans h3⟩
theorem and_stable {F G : World → Prop} (h : Stable F) (k : Stable G) : Stable fun w => F w ∧ G w := fun w w' hx ⟨h1, h2⟩ => ⟨h w w' hx h1, k w w' hx h2⟩

section
variable {P : Program} {ops : Array Oper} {md : Region.Mode} {W : World} {q s n : Nat} {ann : Nat → Array Value × TypeId}

/-- one value in every world that extends W -/
def Calm (P : Program) (W : World) (o : Oper) (a : Act) (v : Value) : Prop := ∀ w, Ext W w → o.quietAt P a (fun w' => Ext w w') w v
/-- a new block in every world -/
def Makes (P : Program) (o : Oper) (a : Act) (c : Array Value × TypeId) : Prop :=
  ∀ w, (execOp a.eval o).run P w = .ok (.value (.pointer (some ⟨w.heap.size, 0, none⟩))) (w.alloc (.cells c.1 c.2))

/-- a store into what is new -/
def Fill (P : Program) (W : World) (o : Oper) (a : Act) (F F' : World → Prop) : Prop :=
  Stable F' ∧ ∀ w, Ext W w → F w → ∃ w', (execOp a.eval o).run P w = .ok .skip w' ∧ Ext W w' ∧ F' w'

abbrev Post := Act → (World → Prop) → Prop

def hOp (P : Program) (ops : Array Oper) (W : World) (q s : Nat) (ann : Nat → Array Value × TypeId) (i : Nat) (K : Post) (a : Act) (F : World → Prop) : Prop :=
  match ops[i]? with
  | none => False
  | some o =>
    if i < q then
      (if Region.wanted o (yielded ops a.tmps) then ∃ v, Calm P W o a v ∧ K (a.put o.dst v) F else K (a.put o.dst undef) F)
    else if i < s then Region.wanted o (yielded ops a.tmps) = true ∧ Makes P o a (ann i) ∧ ∀ v, K (a.put o.dst v) (fun w => F w ∧ Fresh W (ann i) v w)
    else Region.wanted o (yielded ops a.tmps) = true ∧ ∃ F', Fill P W o a F F' ∧ K (a.put o.dst undef) F'

theorem hOp_mono {i : Nat} {K K' : Post} {a : Act} {F : World → Prop} (h : ∀ a F, K a F → K' a F) (hh : hOp P ops W q s ann i K a F) : hOp P ops W q s ann i K' a F := by
  unfold hOp at *
  split
  · rename_i ho; simp only [ho] at hh
  · rename_i o ho
    simp only [ho] at hh
    split
    · rename_i hi
      simp only [hi, if_true] at hh
      split
      · rename_i hw; simp only [hw, if_true] at hh; obtain ⟨v, h1, h2⟩ := hh; exact ⟨v, h1, h _ _ h2⟩
      · rename_i hw; simp only [hw] at hh; exact h _ _ hh
    · rename_i hi
      simp only [hi, if_false] at hh
      split
      · rename_i his
        simp only [his, if_true] at hh
        exact ⟨hh.1, hh.2.1, fun v => h _ _ (hh.2.2 v)⟩
      · rename_i his
        simp only [his, if_false] at hh
        obtain ⟨h1, F', h2, h3⟩ := hh
        exact ⟨h1, F', h2, h _ _ h3⟩

/-- whatever order is picked; F: what is known of the new blocks -/
def wpH (P : Program) (md : Region.Mode) (ops : Array Oper) (W : World) (q s n : Nat) (ann : Nat → Array Value × TypeId) (L : Array Bool → Post) : Nat → Array Bool → Post
  | 0, listed, a, F => L listed a F
  | k + 1, listed, a, F => Region.ready md ops listed ≠ [] ∧ ∀ i ∈ Region.ready md ops listed, i < n ∧ hOp P ops W q s ann i (wpH P md ops W q s n ann L k (listed.setIfInBounds i true)) a F

theorem wp_of_hOp {i : Nat} {K : Post} {K' : Act → World → Prop} {Q' : Exit → Act → World → Prop} {a : Act} {F : World → Prop} {w : World} (hw : Ext W w) (hs : Stable F) (hF : F w)
    (h : ∀ a F, K a F → Stable F → ∀ w, Ext W w → F w → K' a w) (hh : hOp P ops W q s ann i K a F) : wpOp P ops Q' i K' a w := by
  unfold hOp at hh
  unfold wpOp
  split
  · rename_i ho; simp only [ho] at hh
  · rename_i o ho
    simp only [ho] at hh
    by_cases hi : i < q
    · simp only [hi, if_true] at hh
      split
      · rename_i hwt
        simp only [hwt, if_true] at hh
        obtain ⟨v, hc, hK⟩ := hh
        refine .inl ?_
        have h3 := hc w hw
        unfold Oper.quietAt at h3
        unfold Oper.wp
        generalize (execOp a.eval o).run P w = r at *
        cases r with
        | ok m w' =>
          cases m <;> simp only [Oper.quietUpon] at h3 <;> simp only [Oper.upon]
          case value u => obtain ⟨e1, e2⟩ := h3; rw [e1, e2]; exact h _ _ hK hs _ hw hF
          case skip => obtain ⟨e1, e2⟩ := h3; rw [e1, ← e2]; exact h _ _ hK hs _ hw hF
          case enter f args =>
            obtain ⟨e1, hcall⟩ := h3
            rw [e1]
            exact hcall.mono fun e w'' ⟨he, hx⟩ => by subst he; exact h _ _ hK hs _ (hw.trans hx) (hs _ _ hx hF)
        | halt x w' => simp only [Oper.quietUpon] at h3
      · rename_i hwt; simp only [hwt] at hh; exact h _ _ hh hs _ hw hF
    · by_cases his : i < s
      · simp only [hi, his, if_false, if_true] at hh
        obtain ⟨hwt, hm, hK⟩ := hh
        simp only [hwt, if_true]
        refine .inl ?_
        unfold Oper.wp
        rw [hm w]
        simp only [Oper.upon]
        refine h _ _ (hK _) (and_stable hs (fresh_stable _ _ _)) _ (hw.alloc _) ⟨hs _ _ ((Ext.refl w).alloc _) hF, w.heap.size, rfl, hw.size, ?_⟩
        show (w.heap.push _)[w.heap.size]? = _
        simp
      · simp only [hi, his, if_false] at hh
        obtain ⟨hwt, F', ⟨hs', hf⟩, hK⟩ := hh
        simp only [hwt, if_true]
        refine .inl ?_
        obtain ⟨w', e, hx', hF'⟩ := hf w hw hF
        unfold Oper.wp
        rw [e]
        simp only [Oper.upon]
        exact h _ _ hK hs' _ hx' hF'

theorem wpAny_of_wpH {g : Nat} {L : Array Bool → Post} {Q' : Exit → Act → World → Prop}
    (hL : ∀ listed a F, L listed a F → Stable F → ∀ w, Ext W w → F w → wpAny P md ops Q' g listed a w) :
    ∀ (k : Nat) (listed : Array Bool) (a : Act) (F : World → Prop), wpH P md ops W q s n ann L k listed a F → Stable F → ∀ w, Ext W w → F w → wpAny P md ops Q' (k + g) listed a w
  | 0, listed, a, F, h, hs, w, hw, hF => by rw [Nat.zero_add]; exact hL _ _ _ h hs _ hw hF
  | k + 1, listed, a, F, h, hs, w, hw, hF => by
    rw [show k + 1 + g = (k + g) + 1 by omega]
    exact ⟨fun h0 => absurd h0 h.1, fun i hi => wp_of_hOp hw hs hF (fun a' F' h' hs' w' hw' hF' => wpAny_of_wpH hL k _ a' F' h' hs' w' hw' hF') (h.2 i hi).2⟩

/-- what an operation does is not turned by another's value -/
theorem calm_put {o o' : Oper} {a : Act} {u v : Value} (hsel : ∀ cs b, o.op ≠ .select cs b) (h : ∀ d, o'.dst = some d → d ∉ o.looksAt ops) : Calm P W o (a.put o'.dst u) v ↔ Calm P W o a v := by
  unfold Calm Oper.quietAt
  rw [execOp_put o hsel a o'.dst u h]
theorem makes_put {o o' : Oper} {a : Act} {u : Value} {c : Array Value × TypeId} (hsel : ∀ cs b, o.op ≠ .select cs b) (h : ∀ d, o'.dst = some d → d ∉ o.looksAt ops) : Makes P o (a.put o'.dst u) c ↔ Makes P o a c := by
  unfold Makes
  rw [execOp_put o hsel a o'.dst u h]

theorem fill_put {o o' : Oper} {a : Act} {u : Value} {F F' : World → Prop} (hsel : ∀ cs b, o.op ≠ .select cs b) (h : ∀ d, o'.dst = some d → d ∉ o.looksAt ops) : Fill P W o (a.put o'.dst u) F F' ↔ Fill P W o a F F' := by
  unfold Fill
  rw [execOp_put o hsel a o'.dst u h]

def Free (ops : Array Oper) (md : Region.Mode) (listed : Array Bool) (i : Nat) (oi : Oper) : Prop :=
  ∀ j oj, ops[j]? = some oj → j ≠ i → listed.getD j true = false → (∀ e ∈ oj.after, Region.binds md e = true → e.on ≠ i) → oi.apart ops oj = true

theorem free_set {listed : Array Bool} {i j : Nat} {oi : Oper} (h : Free ops md listed i oi) (hun : listed.getD j true = false) : Free ops md (listed.setIfInBounds j true) i oi := by
  intro k ok hk hki hun' hno
  refine h k ok hk hki ?_ hno
  by_cases hjk : j = k
  · subst hjk; exact hun
  · rw [getD_set_ne true hjk] at hun'; exact hun'

theorem not_waits {listed : Array Bool} {i j : Nat} {oj : Oper} (hun : listed.getD i true = false) (hj : j ∈ Region.ready md ops listed) (hoj : ops[j]? = some oj) : ∀ e ∈ oj.after, Region.binds md e = true → e.on ≠ i := fun e he hb heq => by
  obtain ⟨_, o, ho, hall⟩ := mem_ready.1 hj
  obtain rfl : oj = o := Option.some.inj (hoj.symm.trans ho)
  have h2 := hall e he hb
  rw [heq, getD_both hun] at h2
  cases h2

/-- a calm operation may be taken first -/
theorem wpH_first {i : Nat} {oi : Oper} {v : Value} {L : Array Bool → Post} (hi : ops[i]? = some oi) (hsel : ∀ (j : Nat) (o : Oper) cs b, ops[j]? = some o → o.op ≠ .select cs b)
    (hs : Region.sinkB md ops n = true) (hc : Region.chainB md ops n = true) (hn : n < ops.size) (hin : i < n) (hiq : i < q)
    (hdone : ∀ listed a F, L listed a F → ∀ j ∈ Region.ready md ops listed, n ≤ j) :
    ∀ (k : Nat) (listed : Array Bool) (a : Act) (F : World → Prop), HeadInv md ops n listed → Free ops md listed i oi → i ∈ Region.ready md ops listed →
      (if Region.wanted oi (yielded ops a.tmps) then Calm P W oi a v else v = undef) →
      wpH P md ops W q s n ann L k (listed.setIfInBounds i true) (a.put oi.dst v) F → wpH P md ops W q s n ann L (k + 1) listed a F := by
  intro k
  have take : ∀ (K : Post) (a : Act) (F : World → Prop), (if Region.wanted oi (yielded ops a.tmps) then Calm P W oi a v else v = undef) → K (a.put oi.dst v) F → hOp P ops W q s ann i K a F := by
    intro K a F hy hK
    unfold hOp
    simp only [hi, hiq, if_true]
    split
    · rename_i hw; simp only [hw, if_true] at hy; exact ⟨v, hy, hK⟩
    · rename_i hw; simp only [hw] at hy; have hy' : v = undef := by simpa using hy
      subst hy'; exact hK
  induction k with
  | zero =>
    intro listed a F inv _ hr hy H
    have hun := (mem_ready.1 hr).1
    refine ⟨fun h => (by rw [h] at hr; cases hr), fun j hj => ?_⟩
    have hjn : j < n := by
      rcases Nat.lt_or_ge j n with h | h
      · exact h
      · exact absurd hj (tail_waits hs hc hn inv _ i rfl hin hun j h)
    refine ⟨hjn, ?_⟩
    by_cases hji : j = i
    · subst hji; exact take _ _ _ hy H
    · have := hdone _ _ _ H j (ready_mono hj hji)
      omega
  | succ k ih =>
    intro listed a F inv hfree hr hy H
    have hun := (mem_ready.1 hr).1
    refine ⟨fun h => (by rw [h] at hr; cases hr), fun j hj => ?_⟩
    have hjn : j < n := by
      rcases Nat.lt_or_ge j n with h | h
      · exact h
      · exact absurd hj (tail_waits hs hc hn inv _ i rfl hin hun j h)
    refine ⟨hjn, ?_⟩
    by_cases hji : j = i
    · subst hji; exact take _ _ _ hy H
    · have h1 := (H.2 j (ready_mono hj hji)).2
      obtain ⟨hjun, oj, hoj, _⟩ := mem_ready.1 hj
      have hap := hfree j oj hoj hji hjun (not_waits hun hj hoj)
      obtain ⟨d1, d2, d3⟩ := Oper.apart_spec hap
      have seli := fun cs b => hsel i oi cs b hi
      have selj := fun cs b => hsel j oj cs b hoj
      have keep : ∀ u, (if Region.wanted oi (yielded ops (a.put oj.dst u).tmps) then Calm P W oi (a.put oj.dst u) v else v = undef) := fun u => by
        rw [wanted_put oi a oj.dst u d3, calm_put seli d3]; exact hy
      have go : ∀ u F', wpH P md ops W q s n ann L k ((listed.setIfInBounds i true).setIfInBounds j true) ((a.put oi.dst v).put oj.dst u) F' → wpH P md ops W q s n ann L (k + 1) (listed.setIfInBounds j true) (a.put oj.dst u) F' := fun u F' h' => by
        refine ih _ _ _ (inv.set hj hjn) (free_set hfree hjun) (ready_mono hr (Ne.symm hji)) (keep u) ?_
        rw [Array.setIfInBounds_comm _ _ hji, ← Act.put_comm a v u d2]
        exact h'
      unfold hOp at h1 ⊢
      simp only [hoj] at h1 ⊢
      rw [wanted_put oj a oi.dst v d1] at h1
      split
      · rename_i hjq
        simp only [hjq, if_true] at h1
        split
        · rename_i hw
          simp only [hw, if_true] at h1
          obtain ⟨u, hu, hK⟩ := h1
          exact ⟨u, (calm_put selj d1).1 hu, go _ _ hK⟩
        · rename_i hw
          simp only [hw] at h1
          exact go _ _ h1
      · rename_i hjq
        simp only [hjq, if_false] at h1
        split
        · rename_i hjs
          simp only [hjs, if_true] at h1
          exact ⟨h1.1, (makes_put selj d1).1 h1.2.1, fun u => go _ _ (h1.2.2 u)⟩
        · rename_i hjs
          simp only [hjs, if_false] at h1
          obtain ⟨h2, F', h3, h4⟩ := h1
          exact ⟨h2, F', (fill_put selj d1).1 h3, go _ _ h4⟩
end

section
variable {P : Program} {ops : Array Oper} {md : Region.Mode} {W : World} {q s n : Nat} {ann : Nat → Array Value × TypeId}

theorem wpH_weaken {L : Array Bool → Post} (hL : ∀ listed a F F', (∀ w, F' w → F w) → L listed a F → L listed a F') :
    ∀ (k : Nat) (listed : Array Bool) (a : Act) (F F' : World → Prop), (∀ w, F' w → F w) → wpH P md ops W q s n ann L k listed a F → wpH P md ops W q s n ann L k listed a F'
  | 0, _, _, _, _, hF, h => hL _ _ _ _ hF h
  | k + 1, listed, a, F, F', hF, h => ⟨h.1, fun i hi => ⟨(h.2 i hi).1, by
      have h1 := (h.2 i hi).2
      unfold hOp at h1 ⊢
      split
      · rename_i ho; simp only [ho] at h1
      · rename_i o ho
        simp only [ho] at h1
        split
        · rename_i hq
          simp only [hq, if_true] at h1
          split
          · rename_i hw; simp only [hw, if_true] at h1; obtain ⟨v, h2, h3⟩ := h1; exact ⟨v, h2, wpH_weaken hL k _ _ _ _ hF h3⟩
          · rename_i hw; simp only [hw] at h1; exact wpH_weaken hL k _ _ _ _ hF h1
        · rename_i hq
          simp only [hq, if_false] at h1
          split
          · rename_i hqs
            simp only [hqs, if_true] at h1
            exact ⟨h1.1, h1.2.1, fun v => wpH_weaken hL k _ _ _ _ (fun w hw => ⟨hF w hw.1, hw.2⟩) (h1.2.2 v)⟩
          · rename_i hqs
            simp only [hqs, if_false] at h1
            obtain ⟨h2, G, ⟨h3, h5⟩, h4⟩ := h1
            exact ⟨h2, G, ⟨h3, fun w hx hw => h5 w hx (hF w hw)⟩, h4⟩⟩⟩

/-- so may a new block, once all that is calm has been done -/
theorem wpH_fresh {i : Nat} {oi : Oper} {L : Array Bool → Post} (hi : ops[i]? = some oi) (hsel : ∀ (j : Nat) (o : Oper) cs b, ops[j]? = some o → o.op ≠ .select cs b)
    (hs : Region.sinkB md ops n = true) (hc : Region.chainB md ops n = true) (hn : n < ops.size) (hin : i < n) (hiq : ¬ i < q) (his : i < s) (hfill : ∀ j oj, ops[j]? = some oj → s ≤ j → j < n → ∃ e ∈ oj.after, Region.binds md e = true ∧ e.on = i)
    (hdone : ∀ listed a F, L listed a F → ∀ j ∈ Region.ready md ops listed, n ≤ j)
    (hLF : ∀ listed a F F', (∀ w, F' w → F w) → L listed a F → L listed a F') :
    ∀ (k : Nat) (listed : Array Bool) (a : Act) (F : World → Prop), HeadInv md ops n listed → Free ops md listed i oi → i ∈ Region.ready md ops listed → (∀ j, j < q → listed.getD j true = true) →
      Region.wanted oi (yielded ops a.tmps) = true → Makes P oi a (ann i) →
      (∀ v, wpH P md ops W q s n ann L k (listed.setIfInBounds i true) (a.put oi.dst v) (fun w => F w ∧ Fresh W (ann i) v w)) → wpH P md ops W q s n ann L (k + 1) listed a F := by
  intro k
  have take : ∀ (K : Post) (a : Act) (F : World → Prop), Region.wanted oi (yielded ops a.tmps) = true → Makes P oi a (ann i) → (∀ v, K (a.put oi.dst v) (fun w => F w ∧ Fresh W (ann i) v w)) → hOp P ops W q s ann i K a F := by
    intro K a F hw hm hK
    unfold hOp
    simp only [hi, hiq, his, if_false, if_true]
    exact ⟨hw, hm, hK⟩
  induction k with
  | zero =>
    intro listed a F inv _ hr _ hw hm H
    have hun := (mem_ready.1 hr).1
    refine ⟨fun h => (by rw [h] at hr; cases hr), fun j hj => ?_⟩
    have hjn : j < n := by
      rcases Nat.lt_or_ge j n with h | h
      · exact h
      · exact absurd hj (tail_waits hs hc hn inv _ i rfl hin hun j h)
    refine ⟨hjn, ?_⟩
    by_cases hji : j = i
    · subst hji; exact take _ _ _ hw hm H
    · have := hdone _ _ _ (H undef) j (ready_mono hj hji)
      omega
  | succ k ih =>
    intro listed a F inv hfree hr hall hw hm H
    have hun := (mem_ready.1 hr).1
    refine ⟨fun h => (by rw [h] at hr; cases hr), fun j hj => ?_⟩
    have hjn : j < n := by
      rcases Nat.lt_or_ge j n with h | h
      · exact h
      · exact absurd hj (tail_waits hs hc hn inv _ i rfl hin hun j h)
    refine ⟨hjn, ?_⟩
    by_cases hji : j = i
    · subst hji; exact take _ _ _ hw hm H
    · obtain ⟨hjun, oj, hoj, _⟩ := mem_ready.1 hj
      have hjq : ¬ j < q := fun h => by rw [hall j h] at hjun; cases hjun
      have hjs : j < s := by
        rcases Nat.lt_or_ge j s with h | h
        · exact h
        · obtain ⟨e, he, hb, hon⟩ := hfill j oj hoj h hjn
          exact absurd hon (not_waits hun hj hoj e he hb)
      have hap := hfree j oj hoj hji hjun (not_waits hun hj hoj)
      obtain ⟨d1, d2, d3⟩ := Oper.apart_spec hap
      have seli := fun cs b => hsel i oi cs b hi
      have selj := fun cs b => hsel j oj cs b hoj
      have h1 : ∀ v, Region.wanted oj (yielded ops a.tmps) = true ∧ Makes P oj a (ann j) ∧ ∀ u, wpH P md ops W q s n ann L k ((listed.setIfInBounds i true).setIfInBounds j true) ((a.put oi.dst v).put oj.dst u) (fun w => (F w ∧ Fresh W (ann i) v w) ∧ Fresh W (ann j) u w) := fun v => by
        have h2 := ((H v).2 j (ready_mono hj hji)).2
        unfold hOp at h2
        simp only [hoj, hjq, hjs, if_false, if_true] at h2
        rw [wanted_put oj a oi.dst v d1, makes_put selj d1] at h2
        exact h2
      unfold hOp
      simp only [hoj, hjq, hjs, if_false, if_true]
      refine ⟨(h1 undef).1, (h1 undef).2.1, fun u => ?_⟩
      refine ih _ _ _ (inv.set hj hjn) (free_set hfree hjun) (ready_mono hr (Ne.symm hji)) (fun m hm' => ?_) ?_ ?_ fun v => ?_
      · by_cases e : j = m
        · subst e; exact absurd hm' hjq
        · rw [getD_set_ne true e]; exact hall m hm'
      · rw [wanted_put oi a oj.dst u d3]; exact hw
      · rw [makes_put seli d3]; exact hm
      · rw [Array.setIfInBounds_comm _ _ hji, ← Act.put_comm a v u d2]
        exact wpH_weaken hLF k _ _ _ _ (fun w ⟨⟨x, y⟩, z⟩ => ⟨⟨x, z⟩, y⟩) ((h1 v).2.2 u)

/-- one walk, in the order of the text -/
def walkQ (P : Program) (ops : Array Oper) (W : World) : List Oper → (Act → Prop) → Act → Prop
  | [], R, a => R a
  | o :: r, R, a => if Region.wanted o (yielded ops a.tmps) then ∃ v, Calm P W o a v ∧ walkQ P ops W r R (a.put o.dst v) else walkQ P ops W r R (a.put o.dst undef)
def walkF (P : Program) (ops : Array Oper) (W : World) (ann : Nat → Array Value × TypeId) : Nat → List Oper → Post → Act → (World → Prop) → Prop
  | _, [], R, a, F => R a F
  | i, o :: r, R, a, F => Region.wanted o (yielded ops a.tmps) = true ∧ Makes P o a (ann i) ∧ ∀ v, walkF P ops W ann (i + 1) r R (a.put o.dst v) (fun w => F w ∧ Fresh W (ann i) v w)

theorem getD_set_all {listed : Array Bool} {i j : Nat} (h : listed.getD j true = true ∨ j = i) : (listed.setIfInBounds i true).getD j true = true := by
  by_cases e : i = j
  · subst e
    rcases Nat.lt_or_ge i listed.size with h' | h'
    · simp [h']
    · simp
  · rw [getD_set_ne true e]; exact h.resolve_right (fun e' => e e'.symm)

/-- a store into a new block, once all else of the head has been done -/
theorem wpH_fill {i : Nat} {oi : Oper} {L : Array Bool → Post} (hi : ops[i]? = some oi)
    (hs : Region.sinkB md ops n = true) (hc : Region.chainB md ops n = true) (hn : n < ops.size) (hin : i + 1 = n) (hiq : ¬ i < q) (his : ¬ i < s)
    (listed : Array Bool) (a : Act) (F F' : World → Prop) (inv : HeadInv md ops n listed) (hr : i ∈ Region.ready md ops listed) (hall : ∀ j, j < i → listed.getD j true = true)
    (hw : Region.wanted oi (yielded ops a.tmps) = true) (hf : Fill P W oi a F F') (H : L (listed.setIfInBounds i true) (a.put oi.dst undef) F') : wpH P md ops W q s n ann L 1 listed a F := by
  have hun := (mem_ready.1 hr).1
  refine ⟨fun h => (by rw [h] at hr; cases hr), fun j hj => ?_⟩
  have hjn : j < n := by
    rcases Nat.lt_or_ge j n with h | h
    · exact h
    · exact absurd hj (tail_waits hs hc hn inv _ i rfl (by omega) hun j h)
  obtain rfl : j = i := by
    rcases Nat.lt_or_ge j i with h | h
    · have := (mem_ready.1 hj).1
      rw [hall j h] at this; cases this
    · omega
  refine ⟨hjn, ?_⟩
  unfold hOp
  simp only [hi, hiq, his, if_false]
  exact ⟨hw, F', hf, H⟩

theorem wpH_lexF {g m : Nat} {R : Post} {L : Array Bool → Post} (hR : ∀ a F F', (∀ w, F' w → F w) → R a F → R a F') (hLF : ∀ listed a F F', (∀ w, F' w → F w) → L listed a F → L listed a F')
    (hdone : ∀ listed a F, L listed a F → ∀ j ∈ Region.ready md ops listed, n ≤ j) (hsel : Region.noSelect ops = true) (hs : Region.sinkB md ops n = true) (hc : Region.chainB md ops n = true) (hn : n < ops.size) (hsn : s ≤ n)
    (hfill : ∀ i, q ≤ i → i < s → ∀ j oj, ops[j]? = some oj → s ≤ j → j < n → ∃ e ∈ oj.after, Region.binds md e = true ∧ e.on = i)
    (hend : ∀ listed a F, HeadInv md ops n listed → (∀ j, j < s → listed.getD j true = true) → Region.lexHead md ops g m s listed = true → R a F → wpH P md ops W q s n ann L m listed a F) :
    ∀ (l : List Oper) (k : Nat) (listed : Array Bool) (a : Act) (F : World → Prop), (∀ j, j < l.length → l[j]? = ops[k + j]?) → k + l.length = s → q ≤ k → HeadInv md ops n listed → (∀ j, j < k → listed.getD j true = true) →
    Region.lexHead md ops g (l.length + m) k listed = true → walkF P ops W ann k l R a F →
    wpH P md ops W q s n ann L (l.length + m) listed a F
  | [], k, listed, a, F, _, hk, _, inv, hall, hB, h => by
    obtain rfl : k = s := by simpa using hk
    rw [List.length_nil, Nat.zero_add] at hB ⊢
    exact hend listed a F inv hall hB h
  | o :: l, k, listed, a, F, hl, hk, hq, inv, hall, hB, h => by
    have h0 : ops[k]? = some o := by simpa using (hl 0 (by simp)).symm
    rw [show (o :: l).length + m = (l.length + m) + 1 by simp only [List.length_cons]; omega] at hB ⊢
    simp only [Region.lexHead, Bool.and_eq_true] at hB
    obtain ⟨⟨hr, hf⟩, hB'⟩ := hB
    have hks : k < s := by simp only [List.length_cons] at hk; omega
    have hkn : k < n := by omega
    have hr' : k ∈ Region.ready md ops listed := by simpa using hr
    obtain ⟨hw, hm, hK⟩ := h
    exact wpH_fresh h0 (Region.noSelect_spec hsel) hs hc hn hkn (by omega) hks (hfill k hq hks) hdone hLF (l.length + m) listed a F inv (Region.free_spec h0 hf) hr' (fun j hj => hall j (by omega)) hw hm
      fun v => wpH_lexF hR hLF hdone hsel hs hc hn hsn hfill hend l (k + 1) _ _ _ (fun j hj => by have := hl (j + 1) (by simp; omega); simpa [Nat.add_assoc, Nat.add_comm 1 j] using this) (by simp only [List.length_cons] at hk; omega) (by omega) (inv.set hr' hkn)
        (fun j hj => getD_set_all (by rcases Nat.lt_or_ge j k with h | h; exact .inl (hall j h); exact .inr (by omega))) hB' (hK v)

theorem wpH_lexQ {g m : Nat} {R : Act → Prop} {L : Array Bool → Post} {F : World → Prop}
    (hdone : ∀ listed a F, L listed a F → ∀ j ∈ Region.ready md ops listed, n ≤ j) (hsel : Region.noSelect ops = true) (hs : Region.sinkB md ops n = true) (hc : Region.chainB md ops n = true) (hn : n < ops.size) (hqn : q ≤ n)
    (hend : ∀ listed a, HeadInv md ops n listed → (∀ j, j < q → listed.getD j true = true) → Region.lexHead md ops g m q listed = true → R a → wpH P md ops W q s n ann L m listed a F) :
    ∀ (l : List Oper) (k : Nat) (listed : Array Bool) (a : Act), (∀ j, j < l.length → l[j]? = ops[k + j]?) → k + l.length = q → HeadInv md ops n listed → (∀ j, j < k → listed.getD j true = true) →
    Region.lexHead md ops g (l.length + m) k listed = true → walkQ P ops W l R a →
    wpH P md ops W q s n ann L (l.length + m) listed a F
  | [], k, listed, a, _, hk, inv, hall, hB, h => by
    obtain rfl : k = q := by simpa using hk
    rw [List.length_nil, Nat.zero_add] at hB ⊢
    exact hend listed a inv hall hB h
  | o :: l, k, listed, a, hl, hk, inv, hall, hB, h => by
    have h0 : ops[k]? = some o := by simpa using (hl 0 (by simp)).symm
    rw [show (o :: l).length + m = (l.length + m) + 1 by simp only [List.length_cons]; omega] at hB ⊢
    simp only [Region.lexHead, Bool.and_eq_true] at hB
    obtain ⟨⟨hr, hf⟩, hB'⟩ := hB
    have hkq : k < q := by simp only [List.length_cons] at hk; omega
    have hkn : k < n := by omega
    have hr' : k ∈ Region.ready md ops listed := by simpa using hr
    have next : ∀ v, walkQ P ops W l R (a.put o.dst v) → wpH P md ops W q s n ann L (l.length + m) (listed.setIfInBounds k true) (a.put o.dst v) F := fun v hv =>
      wpH_lexQ hdone hsel hs hc hn hqn hend l (k + 1) _ _ (fun j hj => by have := hl (j + 1) (by simp; omega); simpa [Nat.add_assoc, Nat.add_comm 1 j] using this) (by simp only [List.length_cons] at hk; omega) (inv.set hr' hkn)
        (fun j hj => getD_set_all (by rcases Nat.lt_or_ge j k with h | h; exact .inl (hall j h); exact .inr (by omega))) hB' hv
    simp only [walkQ] at h
    by_cases hw : Region.wanted o (yielded ops a.tmps) = true
    · rw [if_pos hw] at h
      obtain ⟨v, hc', hK⟩ := h
      exact wpH_first (v := v) h0 (Region.noSelect_spec hsel) hs hc hn hkn hkq hdone _ listed a F inv (Region.free_spec h0 hf) hr' (by rw [if_pos hw]; exact hc') (next v hK)
    · rw [if_neg hw] at h
      exact wpH_first (v := undef) h0 (Region.noSelect_spec hsel) hs hc hn hkn hkq hdone _ listed a F inv (Region.free_spec h0 hf) hr' (by rw [if_neg hw]) (next undef h)

/-- the store waits for each new block -/
def fillB (md : Region.Mode) (ops : Array Oper) (q s n : Nat) : Bool :=
  (List.range (s - q)).all fun i => (List.range (n - s)).all fun j => (ops[s + j]?).all fun o => o.after.any fun e => Region.binds md e && decide (e.on = q + i)
theorem fillB_spec {md : Region.Mode} {ops : Array Oper} {q s n : Nat} (h : fillB md ops q s n = true) : ∀ i, q ≤ i → i < s → ∀ j oj, ops[j]? = some oj → s ≤ j → j < n → ∃ e ∈ oj.after, Region.binds md e = true ∧ e.on = i := by
  intro i hi his j oj hoj hsj hjn
  unfold fillB at h
  rw [List.all_eq_true] at h
  have h1 := h (i - q) (by simp; omega)
  rw [List.all_eq_true] at h1
  have h2 := h1 (j - s) (by simp; omega)
  rw [show s + (j - s) = j by omega, hoj] at h2
  simp only [Option.all_some, Array.any_eq_true, Bool.and_eq_true, decide_eq_true_eq] at h2
  obtain ⟨k, hk, h3, h4⟩ := h2
  exact ⟨_, Array.getElem_mem hk, h3, by omega⟩

/-- A REGION THAT DRAWS ITS ORDER: q calm operations, f new blocks, m (none or one) stores into a new block, then what stands in one order -/
theorem wp_region_fill {id : Nat} {Q : Exit → Act → World → Prop} {a : Act} {w : World} {l : List Oper} (q f m : Nat) (hm1 : m ≤ 1) (ann : Nat → Array Value × TypeId) (hm : P.follows .mixedOrders = true) (hB : Region.lexTailB .any l.toArray (q + f + m) = true) (hfb : fillB .any l.toArray q (q + f) (q + f + m) = true)
    (R : Post) (hR : ∀ a F F', (∀ w, F' w → F w) → R a F → R a F')
    (hRm : ∀ a F, R a F → ∀ o ∈ (l.drop (q + f)).take m, Region.wanted o (yielded l.toArray a.tmps) = true ∧ ∃ F', Fill P w.drew o a F F' ∧ ∀ w', Ext w.drew w' → F' w' → wpList P l.toArray Q (l.drop (q + f + m)) (a.put o.dst undef) w')
    (hR0 : m = 0 → ∀ a F, R a F → ∀ w', Ext w.drew w' → F w' → wpList P l.toArray Q (l.drop (q + f + m)) a w')
    (h : walkQ P l.toArray w.drew (l.take q) (fun a' => walkF P l.toArray w.drew ann q ((l.drop q).take f) R a' (fun _ => True)) a) : (Code.region id l.toArray true).wp P Q a w := by
  simp only [Region.lexTailB, Bool.and_eq_true, decide_eq_true_eq] at hB
  obtain ⟨⟨⟨⟨hsel, hn⟩, hs⟩, hc⟩, hlex⟩ := hB
  have hn' : q + f + m < l.length := by simpa using hn
  have htl : (l.take q).length = q := by simp; omega
  have hfl : ((l.drop q).take f).length = f := by simp; omega
  have hdl : (l.drop (q + f + m)).length = l.toArray.size - (q + f + m) := by simp
  have inv0 : HeadInv .any l.toArray (q + f + m) (Array.replicate l.toArray.size false) :=
    ⟨by simp, fun j oj _ hl => (by rw [getD_replicate_false] at hl; cases hl), fun t _ ht => getD_in (by simpa using ht) (getD_replicate_false _ _)⟩
  let L : Array Bool → Post := fun listed' a' F' => Region.seqB .any l.toArray (l.toArray.size - (q + f + m)) (q + f + m) listed' = true ∧ ∀ w', Ext w.drew w' → F' w' → wpList P l.toArray Q (l.drop (q + f + m)) a' w'
  have hLF : ∀ listed a F F', (∀ w, F' w → F w) → L listed a F → L listed a F' := fun _ _ _ _ hF hL => ⟨hL.1, fun w' hx hF' => hL.2 w' hx (hF _ hF')⟩
  have hdone : ∀ listed a F, L listed a F → ∀ j ∈ Region.ready .any l.toArray listed, q + f + m ≤ j := fun _ _ _ hL => seqB_ready hL.1
  have hend : ∀ listed a F, HeadInv .any l.toArray (q + f + m) listed → (∀ j, j < q + f → listed.getD j true = true) → Region.lexHead .any l.toArray (l.toArray.size - (q + f + m)) m (q + f) listed = true → R a F → wpH P .any l.toArray w.drew q (q + f) (q + f + m) ann L m listed a F := by
    intro listed a F inv hall hlx hr
    rcases m with _ | m
    · rw [show Region.lexHead .any l.toArray (l.toArray.size - (q + f + 0)) 0 (q + f) listed = Region.seqB .any l.toArray (l.toArray.size - (q + f + 0)) (q + f) listed from rfl] at hlx
      exact ⟨hlx, hR0 rfl a F hr⟩
    · obtain rfl : m = 0 := by omega
      have hlt : q + f < l.length := by omega
      have h0 : l.toArray[q + f]? = some l[q + f] := by simp [hlt]
      have hmem : l[q + f] ∈ (l.drop (q + f)).take 1 := by
        rw [List.drop_eq_getElem_cons hlt, List.take_succ_cons]
        exact List.mem_cons_self
      obtain ⟨h1, F', h2, h3⟩ := hRm a F hr _ hmem
      simp only [Region.lexHead, Bool.and_eq_true] at hlx
      obtain ⟨⟨hr1, _⟩, hl2⟩ := hlx
      exact wpH_fill h0 hs hc hn rfl (by omega) (by omega) listed a F F' inv (by simpa using hr1) hall h1 h2 ⟨hl2, h3⟩
  have H := wpH_lexQ (P := P) (W := w.drew) (q := q) (s := q + f) (n := q + f + m) (ann := ann) (F := fun _ => True) (R := fun a' => walkF P l.toArray w.drew ann q ((l.drop q).take f) R a' (fun _ => True)) (L := L) (md := .any) (m := f + m)
    (g := l.toArray.size - (q + f + m)) hdone hsel hs hc hn (by omega) (fun listed a inv hall hlx hr => by
      have := wpH_lexF (P := P) (m := m) hR hLF hdone hsel hs hc hn (by omega) (fillB_spec hfb) hend ((l.drop q).take f) q listed a (fun _ => True) (fun j hj => by
        rw [hfl] at hj
        simp [hj, List.getElem?_drop]) (by rw [hfl]) (Nat.le_refl _) inv hall (by rw [hfl]; exact hlx) hr
      rwa [hfl] at this) (l.take q) 0 _ a (fun j hj => by
      have hj' : j < q := by rw [htl] at hj; exact hj
      simp [hj']) (by simpa using htl) inv0 (fun j hj => absurd hj (Nat.not_lt_zero _)) (by rw [htl, ← Nat.add_assoc]; exact hlex) h
  refine wp_region_any hm ?_
  have := wpAny_of_wpH (Q' := Q) (g := l.toArray.size - (q + f + m)) (fun listed a' F' hL _ w' hw' hF' => by
    have := wpAny_of_seq (md := .any) (Q' := Q) (l.drop (q + f + m)) (q + f + m) listed a' w' (fun j => by simp [List.getElem?_drop]) (by rw [hdl]; exact hL.1) (hL.2 w' hw' hF')
    rwa [hdl] at this) _ _ _ _ H (fun _ _ _ h => h) w.drew (Ext.refl _) trivial
  rw [htl, show q + (f + m) + (l.toArray.size - (q + f + m)) = l.toArray.size by omega] at this
  exact this

/-- A REGION THAT DRAWS ITS ORDER: q calm operations, f new blocks, then what stands in one order -/
theorem wp_region_calm {id : Nat} {Q : Exit → Act → World → Prop} {a : Act} {w : World} {l : List Oper} (q f : Nat) (ann : Nat → Array Value × TypeId) (hm : P.follows .mixedOrders = true) (hB : Region.lexTailB .any l.toArray (q + f) = true)
    (h : walkQ P l.toArray w.drew (l.take q) (fun a' => walkF P l.toArray w.drew ann q ((l.drop q).take f) (fun a'' F => ∀ w', Ext w.drew w' → F w' → wpList P l.toArray Q (l.drop (q + f)) a'' w') a' (fun _ => True)) a) : (Code.region id l.toArray true).wp P Q a w :=
  wp_region_fill q f 0 (Nat.zero_le _) ann hm hB (by unfold fillB; simp) _ (fun a F F' hF hh w' hw' hF' => hh w' hw' (hF _ hF')) (fun _ _ _ o ho => by simp at ho) (fun _ a F hr => hr) h

open Classical in
/-- a world that extends W, if x is one -/
noncomputable def grow (W x : World) : World := if Ext W x then x else W
theorem ext_grow (W x : World) : Ext W (grow W x) := by unfold grow; split; assumption; exact Ext.refl _
theorem grow_of {W x : World} (h : Ext W x) : grow W x = x := by unfold grow; rw [if_pos h]
theorem walkQ_step {o : Oper} {r : List Oper} {R : Act → Prop} {a : Act}
    (h : ∀ K : Act → Prop, (∀ a, walkQ P ops W r R a → K a) → if Region.wanted o (yielded ops a.tmps) then ∃ v, (∀ x, o.quietAt P a (fun w' => Ext (grow W x) w') (grow W x) v) ∧ K (a.put o.dst v) else K (a.put o.dst undef)) : walkQ P ops W (o :: r) R a := by
  have h1 := h (walkQ P ops W r R) (fun _ h => h)
  simp only [walkQ]
  split
  · rename_i hw
    rw [if_pos hw] at h1
    obtain ⟨v, h2, h3⟩ := h1
    refine ⟨v, fun w hx => ?_, h3⟩
    have := h2 w
    rw [grow_of hx] at this
    exact this
  · rename_i hw
    rw [if_neg hw] at h1
    exact h1
theorem walkQ_nil {R : Act → Prop} {a : Act} (h : R a) : walkQ P ops W [] R a := h
theorem walkF_nil {i : Nat} {R : Post} {a : Act} {F : World → Prop} (h : R a F) : walkF P ops W ann i [] R a F := h
theorem walkF_step {i : Nat} {o : Oper} {r : List Oper} {R : Post} {a : Act} {F : World → Prop} (hw : Region.wanted o (yielded ops a.tmps) = true) (hm : Makes P o a (ann i))
    (h : ∀ v, walkF P ops W ann (i + 1) r R (a.put o.dst v) (fun w => F w ∧ Fresh W (ann i) v w)) : walkF P ops W ann i (o :: r) R a F := ⟨hw, hm, h⟩
/-- the same, with what a walk wants to know of the worlds that extend this one -/
theorem wp_calm {id : Nat} {Q : Exit → Act → World → Prop} {a : Act} {w : World} {l : List Oper} (q f : Nat) (ann : Nat → Array Value × TypeId) (hm : P.follows .mixedOrders = true) (hB : Region.lexTailB .any l.toArray (q + f) = true)
    (h : (∀ x b o, b < w.heap.size → (grow w.drew x).cell? ⟨b, o, none⟩ = w.cell? ⟨b, o, none⟩) → walkQ P l.toArray w.drew (l.take q) (fun a' => walkF P l.toArray w.drew ann q ((l.drop q).take f) (fun a'' F => ∀ w', Ext w.drew w' → F w' → wpList P l.toArray Q (l.drop (q + f)) a'' w') a' (fun _ => True)) a) : (Code.region id l.toArray true).wp P Q a w :=
  wp_region_calm q f ann hm hB (h fun x b o hb => (ext_grow w.drew x).cells b o hb)
/-- one with a store into a new block -/
theorem wp_fill {id : Nat} {Q : Exit → Act → World → Prop} {a : Act} {w : World} {l : List Oper} (q f : Nat) (ann : Nat → Array Value × TypeId) (hm : P.follows .mixedOrders = true) (hB : Region.lexTailB .any l.toArray (q + f + 1) = true) (hfb : fillB .any l.toArray q (q + f) (q + f + 1) = true)
    (h : (∀ x b o, b < w.heap.size → (grow w.drew x).cell? ⟨b, o, none⟩ = w.cell? ⟨b, o, none⟩) → walkQ P l.toArray w.drew (l.take q) (fun a' => walkF P l.toArray w.drew ann q ((l.drop q).take f) (fun a F => ∀ o ∈ (l.drop (q + f)).take 1, Region.wanted o (yielded l.toArray a.tmps) = true ∧ ∃ F', Fill P w.drew o a F F' ∧ ∀ w', Ext w.drew w' → F' w' → wpList P l.toArray Q (l.drop (q + f + 1)) (a.put o.dst undef) w') a' (fun _ => True)) a) : (Code.region id l.toArray true).wp P Q a w :=
  wp_region_fill q f 1 (Nat.le_refl _) ann hm hB hfb _ (fun a F F' hF hh o ho => by
    obtain ⟨h1, G, ⟨h2, h3⟩, h4⟩ := hh o ho
    exact ⟨h1, G, ⟨h2, fun w' hx hF' => h3 w' hx (hF _ hF')⟩, h4⟩) (fun a F hr => hr) (fun h0 => absurd h0 (by omega)) (h fun x b o hb => (ext_grow w.drew x).cells b o hb)
/-- a region without a tail -/
theorem wp_calm0 {id : Nat} {Q : Exit → Act → World → Prop} {a : Act} {w : World} {l : List Oper} (hm : P.follows .mixedOrders = true) (hB : Region.lexB .any l.toArray = true)
    (h : (∀ x b o, b < w.heap.size → (grow w.drew x).cell? ⟨b, o, none⟩ = w.cell? ⟨b, o, none⟩) → walkQ P l.toArray w.drew l (fun a' => ∀ w', Ext w.drew w' → Q .normal a' w') a) : (Code.region id l.toArray true).wp P Q a w := by
  refine wp_region_quiet (C := fun w' => Ext w.drew w') hm hB (Ext.refl _) ?_
  have key : ∀ (r : List Oper) (a : Act), walkQ P l.toArray w.drew r (fun a' => ∀ w', Ext w.drew w' → Q .normal a' w') a → wpQuiet P l.toArray (fun w' => Ext w.drew w') (fun a' => ∀ w', Ext w.drew w' → Q .normal a' w') r a := by
    intro r
    induction r with
    | nil => exact fun a h => h
    | cons o r ih =>
      intro a h
      simp only [walkQ] at h
      simp only [wpQuiet]
      split
      · rename_i hw
        rw [if_pos hw] at h
        obtain ⟨v, h1, h2⟩ := h
        refine ⟨v, fun w1 hx => ?_, ih _ h2⟩
        have h3 := h1 w1 hx
        unfold Oper.quietAt at *
        generalize (execOp a.eval o).run P w1 = z at *
        cases z with
        | ok m w' =>
          cases m <;> simp only [Oper.quietUpon] at h3 ⊢
          case enter f args => exact ⟨h3.1, h3.2.mono fun e w'' ⟨he, hx'⟩ => ⟨he, hx.trans hx'⟩⟩
          all_goals exact h3
        | halt x w' => simp only [Oper.quietUpon] at h3
      · rename_i hw
        rw [if_neg hw] at h
        exact ih _ h
  exact key l a (h fun x b o hb => (ext_grow w.drew x).cells b o hb)
/-- a region whose head leaves the very world -/
theorem wp_still {id : Nat} {Q : Exit → Act → World → Prop} {a : Act} {w : World} {l : List Oper} (n : Nat) (hm : P.follows .mixedOrders = true) (hB : Region.lexTailB .any l.toArray n = true)
    (h : wpStill P l.toArray w.drew (fun a' => wpList P l.toArray Q (l.drop n) a' w.drew) (l.take n) a) : (Code.region id l.toArray true).wp P Q a w :=
  wp_region_still_tail n hm hB h
theorem still_same {f : FuncId} {args : Array Value} {w : World} {v : Value} (h : Calls P f args w fun e w' => e = .returned v ∧ w = w') : Calls P f args w fun e w' => e = .returned v ∧ w' = w :=
  h.mono fun _ _ ⟨he, hw⟩ => ⟨he, hw.symm⟩
/-- a callee that leaves the world -/
theorem calm_same {f : FuncId} {args : Array Value} {w : World} {v : Value} (h : Calls P f args w fun e w' => e = .returned v ∧ w = w') : Calls P f args w fun e w' => e = .returned v ∧ Ext w w' :=
  h.mono fun _ _ ⟨he, hw⟩ => ⟨he, hw ▸ Ext.refl _⟩
end
attribute [irreducible] walkQ
end Go.Proofs.Ytlifhoajamnehaa
