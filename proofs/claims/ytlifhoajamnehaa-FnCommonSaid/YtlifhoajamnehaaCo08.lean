/- Perm Off0 Flt Row: contracts of functions, and lemmas, for this seat. Conditions: as each states. -/
import Derived.Test.YtlifhoajamnehaaCo01
import Derived.Test.YtlifhoajamnehaaCo04
import Derived.Test.YtlifhoajamnehaaCo05
import Derived.Test.YtlifhoajamnehaaRows
import Derived.WalkKit
import Derived.ProofKit
import Derived.OpenShut
import Derived.Carry
set_option linter.unusedVariables false
set_option linter.unusedSimpArgs false
set_option maxRecDepth 100000
set_option maxHeartbeats 1000000
namespace Go.Proofs.Ytlifhoajamnehaa
open Go Go.RowKit
/-! a region that draws, in any mix: calm operations, and operations that must wait for all calm ones ahead of them (new blocks, stores, calls whose value is not told ahead) -/
section
variable {P : Program} {ops : Array Oper} {md : Region.Mode} {W : World}
def anyUpon (P : Program) (R : Value → World → Prop) : Result Next → Prop
  | .ok (.value v) w' => R v w'
  | .ok .skip w' => R undef w'
  | .ok (.enter f args) w' => Calls P f args w' fun e w'' => ∃ v, e = .returned v ∧ R v w''
  | _ => False
/-- what is listed has all listed for which it waits -/
structure InvT (md : Region.Mode) (ops : Array Oper) (listed : Array Bool) : Prop where
  size : listed.size = ops.size
  closed : ∀ j oj, ops[j]? = some oj → listed.getD j false = true → ∀ e ∈ oj.after, Region.binds md e = true → listed.getD e.on false = true
theorem InvT.set {i : Nat} {listed : Array Bool} (inv : InvT md ops listed) (hi : i ∈ Region.ready md ops listed) : InvT md ops (listed.setIfInBounds i true) := by
  obtain ⟨_, oi, hoi, hall⟩ := mem_ready.1 hi
  refine ⟨by simp [inv.size], fun j oj hj hl e he hb => ?_⟩
  by_cases hij : i = j
  · subst hij
    have : oj = oi := Option.some.inj (hj.symm.trans hoi)
    subst this
    exact getD_set_true (hall e he hb)
  · rw [getD_set_ne false hij] at hl
    exact getD_set_true (inv.closed j oj hj hl e he hb)
/-- one waits for another, at once or by way of others -/
def waitsT (md : Region.Mode) (ops : Array Oper) : Nat → Nat → Nat → Bool
  | 0, _, _ => false
  | f + 1, t, p => (List.range ops.size).any fun u => Region.waitsFor md ops t u && (decide (u = p) || waitsT md ops f u p)
theorem waitsT_not {listed : Array Bool} (inv : InvT md ops listed) {p : Nat} (hp : listed.getD p true = false) : ∀ (f t : Nat), waitsT md ops f t p = true → listed.getD t false = false ∧ t ∉ Region.ready md ops listed
  | 0, t, h => by cases h
  | f + 1, t, h => by
    obtain ⟨u, _, hu⟩ := List.any_eq_true.1 h
    simp only [Bool.and_eq_true, Bool.or_eq_true, decide_eq_true_eq] at hu
    obtain ⟨h1, h2⟩ := hu
    obtain ⟨ot, hot, e, he, hb, hon⟩ := Region.waitsFor_spec h1
    have hu : listed.getD u false = false := by
      rcases h2 with rfl | h2
      · exact getD_both hp
      · exact (waitsT_not inv hp f u h2).1
    constructor
    · cases hl : listed.getD t false with
      | false => rfl
      | true =>
        have := inv.closed t ot hot hl e he hb
        rw [hon, hu] at this
        cases this
    · intro hr
      obtain ⟨_, o', ho', hall⟩ := mem_ready.1 hr
      have : o' = ot := Option.some.inj (ho'.symm.trans hot)
      subst this
      have := hall e he hb
      rw [hon, hu] at this
      cases this
def seqL (md : Region.Mode) (ops : Array Oper) : List Nat → Array Bool → Bool
  | [], listed => (Region.ready md ops listed).isEmpty
  | t :: r, listed => decide (Region.ready md ops listed = [t]) && seqL md ops r (listed.setIfInBounds t true)
def permC (md : Region.Mode) (ops : Array Oper) (T : List Nat) : List (Nat × Bool) → Array Bool → Bool
  | [], listed => seqL md ops T listed
  | (k, true) :: r, listed => (Region.ready md ops listed).contains k && Region.free md ops listed k && permC md ops T r (listed.setIfInBounds k true)
  | (k, false) :: r, listed => decide (Region.ready md ops listed = [k]) && permC md ops T r (listed.setIfInBounds k true)
def kindOf (l : List (Nat × Bool)) (i : Nat) : Option Bool := (l.find? fun p => decide (p.1 = i)).map (·.2)
def permB (md : Region.Mode) (ops : Array Oper) (l : List (Nat × Bool)) (T : List Nat) : Bool :=
  Region.noSelect ops && decide (l.length + T.length = ops.size) && ((List.range ops.size).all fun i => (kindOf l i).isSome || T.contains i) && (T.all fun t => (kindOf l t).isNone) && (T.all fun t => l.all fun p => waitsT md ops ops.size t p.1) && (l.all fun p => decide (kindOf l p.1 = some p.2) && decide (p.1 < ops.size)) && (T.all fun t => decide (t < ops.size)) && permC md ops T l (Array.replicate ops.size false)
def pickO (ops : List Oper) : List (Nat × Bool) → List (Oper × Bool)
  | [] => []
  | (k, c) :: r => match ops[k]? with
    | some o => (o, c) :: pickO ops r
    | none => pickO ops r
def pickT (ops : List Oper) : List Nat → List Oper
  | [] => []
  | k :: r => match ops[k]? with
    | some o => o :: pickT ops r
    | none => pickT ops r
theorem pickO_some {l : List Oper} {k : Nat} {c : Bool} {r : List (Nat × Bool)} {o : Oper} (h : l[k]? = some o) : pickO l ((k, c) :: r) = (o, c) :: pickO l r := by
  show (match l[k]? with | some o => (o, c) :: pickO l r | none => pickO l r) = _
  rw [h]
theorem pickT_some {l : List Oper} {k : Nat} {r : List Nat} {o : Oper} (h : l[k]? = some o) : pickT l (k :: r) = o :: pickT l r := by
  show (match l[k]? with | some o => o :: pickT l r | none => pickT l r) = _
  rw [h]
theorem seqL_wp {Q' : Exit → Act → World → Prop} {l : List Oper} : ∀ (T : List Nat) (listed : Array Bool) (a : Act) (w : World), (∀ t ∈ T, t < l.length) → seqL md l.toArray T listed = true → wpList P l.toArray Q' (pickT l T) a w → wpAny P md l.toArray Q' T.length listed a w
  | [], _, _, _, _, hB, h => ⟨by simpa [seqL] using hB, h⟩
  | t :: T, listed, a, w, hlt, hB, h => by
    have ht : t < l.length := hlt t List.mem_cons_self
    have h0 : l[t]? = some l[t] := List.getElem?_eq_getElem ht
    simp only [seqL, Bool.and_eq_true, decide_eq_true_eq] at hB
    refine ⟨fun h1 => (by rw [hB.1] at h1; cases h1), fun i hi => ?_⟩
    rw [hB.1] at hi
    obtain rfl : i = t := by simpa using hi
    rw [pickT_some h0] at h
    have hw : wpOp P l.toArray Q' i (wpList P l.toArray Q' (pickT l T)) a w := by unfold wpOp; simp only [List.getElem?_toArray, h0]; exact h
    exact wpOp_mono (fun a' w' h' => seqL_wp T _ a' w' (fun t ht => hlt t (List.mem_cons_of_mem _ ht)) hB.2 h') hw
end
end Go.Proofs.Ytlifhoajamnehaa
set_option linter.unusedVariables false
set_option linter.unusedSimpArgs false
set_option maxRecDepth 100000
set_option maxHeartbeats 1000000
namespace Go.Proofs.Ytlifhoajamnehaa
open Go Go.RowKit Instr
/-! a world in which some blocks alone may have been written -/
structure Off (S : Nat → Prop) (a w : World) : Prop where
  os : w.os = a.os
  tape : w.tape = a.tape
  output : w.output = a.output
  size : a.heap.size ≤ w.heap.size
  block : ∀ k, k < a.heap.size → ¬ S k → w.heap[k]? = a.heap[k]?
theorem Off.refl (S : Nat → Prop) (w : World) : Off S w w := ⟨rfl, rfl, rfl, Nat.le_refl _, fun _ _ _ => rfl⟩
theorem Off.trans {S : Nat → Prop} {a b c : World} (h : Off S a b) (k : Off S b c) : Off S a c :=
  ⟨k.os.trans h.os, k.tape.trans h.tape, k.output.trans h.output, Nat.le_trans h.size k.size, fun i hi hs => (k.block i (Nat.lt_of_lt_of_le hi h.size) hs).trans (h.block i hi hs)⟩
theorem Ext.off {a w : World} (h : Ext a w) (S : Nat → Prop) : Off S a w := ⟨h.below.os, h.below.tape, h.below.output, h.size, fun _ hk _ => h.at hk⟩
theorem Off.ext {S : Nat → Prop} {x a w : World} (hx : Ext x a) (h : Off S a w) (hS : ∀ k, S k → x.heap.size ≤ k) : Ext x w :=
  .of ⟨h.os.trans hx.below.os, h.tape.trans hx.below.tape, h.output.trans hx.below.output, Nat.le_trans hx.size h.size, fun k hk => (h.block k (Nat.lt_of_lt_of_le hk hx.size) (fun hs => by have := hS k hs; omega)).trans (hx.at hk)⟩
theorem Off.cell {S : Nat → Prop} {a w : World} (h : Off S a w) {b : Nat} (hb : b < a.heap.size) (hs : ¬ S b) (o : Nat) : w.cell? ⟨b, o, none⟩ = a.cell? ⟨b, o, none⟩ := World.cell?_of_block (a := ⟨b, o, none⟩) (h.block b hb hs)
theorem Off.own {S : Nat → Prop} {a w : World} (h : Off S a w) {B C : Nat} {e : TypeId} {size : Nat} {v : Value} {n : Nat} {xs : List Value} (ho : a.ownsRow B e size v n xs) (hS : ∀ k, S k → k < C) (hB : C ≤ B) : w.ownsRow B e size v n xs := by
  refine ⟨ho.1, ?_⟩
  rcases ho.2 with hn | ⟨g, cap, cur, hv, hb, hg, r⟩
  · exact .inl hn
  · refine .inr ⟨g, cap, cur, hv, hb, ?_, r⟩
    rw [h.block g (row_lt hg) (fun hs => by have := hS g hs; omega)]
    exact hg
theorem Off.mono {S T : Nat → Prop} {a w : World} (h : Off S a w) (hS : ∀ k, S k → T k) : Off T a w := ⟨h.os, h.tape, h.output, h.size, fun k hk hs => h.block k hk (fun h => hs (hS k h))⟩
theorem Off.set {S : Nat → Prop} {a w : World} (h : Off S a w) {p : Addr} (hp : S p.block) (u : Value) : Off S a (w.setCell p u) := by
  refine h.trans ⟨rfl, rfl, rfl, by simp, fun k _ hs => heap_setCell_other w p k u (fun e => hs (by rw [e]; exact hp))⟩
end Go.Proofs.Ytlifhoajamnehaa
set_option linter.unusedVariables false
set_option linter.unusedSimpArgs false
set_option maxRecDepth 100000
set_option maxHeartbeats 1000000
namespace Go.Proofs.Ytlifhoajamnehaa
open Go Go.RowKit
/-! a region that draws, in which what leaves the world floats (loads, arithmetic), and all else stands in one chain and is walked in its very world -/
section
variable {P : Program} {ops : Array Oper} {md : Region.Mode} {R : World → Prop} {Q : Exit → Act → World → Prop}
theorem anyUpon_mono {A B : Value → World → Prop} (h : ∀ v w, A v w → B v w) {r : Result Next} (hr : anyUpon P A r) : anyUpon P B r := by
  cases r with
  | ok m w' =>
    cases m <;> simp only [anyUpon] at hr ⊢
    case value u => exact h _ _ hr
    case skip => exact h _ _ hr
    case enter f args => exact hr.mono fun e w'' ⟨v, he, h1⟩ => ⟨v, he, h _ _ h1⟩
  | halt x w' => simp only [anyUpon] at hr
/-- one value in every world of R, which it leaves -/
def Flt (P : Program) (R : World → Prop) (o : Oper) (a : Act) (v : Value) : Prop := ∀ w, R w → o.quietAt P a (fun w' => w' = w) w v
theorem flt_put {o o' : Oper} {a : Act} {u v : Value} (hsel : ∀ cs b, o.op ≠ .select cs b) (h : ∀ d, o'.dst = some d → d ∉ o.looksAt ops) : Flt P R o (a.put o'.dst u) v ↔ Flt P R o a v := by
  unfold Flt Oper.quietAt
  rw [execOp_put o hsel a o'.dst u h]
def rOp (P : Program) (ops : Array Oper) (R : World → Prop) (i : Nat) (K : Act → World → Prop) (a : Act) (w : World) : Prop :=
  match ops[i]? with
  | none => False
  | some o => if Region.wanted o (yielded ops a.tmps) then anyUpon P (fun v w' => R w' ∧ K (a.put o.dst v) w') ((execOp a.eval o).run P w) else K (a.put o.dst undef) w
def wpR (P : Program) (md : Region.Mode) (ops : Array Oper) (R : World → Prop) (kind : Nat → Option Bool) (L : Array Bool → Act → World → Prop) : Nat → Array Bool → Act → World → Prop
  | 0, listed, a, w => L listed a w
  | k + 1, listed, a, w => Region.ready md ops listed ≠ [] ∧ ∀ i ∈ Region.ready md ops listed, kind i ≠ none ∧ rOp P ops R i (wpR P md ops R kind L k (listed.setIfInBounds i true)) a w
theorem wp_of_rOp {i : Nat} {K K' : Act → World → Prop} {a : Act} {w : World} (h : ∀ a w, K a w → K' a w) (hh : rOp P ops R i K a w) : wpOp P ops Q i K' a w := by
  unfold rOp at hh
  unfold wpOp
  split
  · rename_i ho; simp only [ho] at hh
  · rename_i o ho
    simp only [ho] at hh
    split
    · rename_i hw
      simp only [hw, if_true] at hh
      refine .inl ?_
      unfold Oper.wp
      generalize (execOp a.eval o).run P w = r at *
      cases r with
      | ok m w' =>
        cases m <;> simp only [anyUpon] at hh <;> simp only [Oper.upon]
        case value u => exact h _ _ hh.2
        case skip => exact h _ _ hh.2
        case enter f args => exact hh.mono fun e w'' ⟨v, he, h1⟩ => by subst he; exact h _ _ h1.2
      | halt x w' => simp only [anyUpon] at hh
    · rename_i hw; simp only [hw] at hh; exact h _ _ hh
theorem wpAny_of_wpR {kind : Nat → Option Bool} {g : Nat} {L : Array Bool → Act → World → Prop} (hL : ∀ listed a w, L listed a w → wpAny P md ops Q g listed a w) :
    ∀ (k : Nat) (listed : Array Bool) (a : Act) (w : World), wpR P md ops R kind L k listed a w → wpAny P md ops Q (k + g) listed a w
  | 0, listed, a, w, h => by rw [Nat.zero_add]; exact hL _ _ _ h
  | k + 1, listed, a, w, h => by
    rw [show k + 1 + g = (k + g) + 1 by omega]
    exact ⟨fun h0 => absurd h0 h.1, fun i hi => wp_of_rOp (fun a' w' h' => wpAny_of_wpR hL k _ a' w' h') (h.2 i hi).2⟩
theorem take_rOp {i : Nat} {oi : Oper} {v : Value} {K : Act → World → Prop} {a : Act} {w : World} (hi : ops[i]? = some oi) (hw : R w)
    (hy : if Region.wanted oi (yielded ops a.tmps) then Flt P R oi a v else v = undef) (hK : K (a.put oi.dst v) w) : rOp P ops R i K a w := by
  unfold rOp
  simp only [hi]
  split
  · rename_i hwt
    rw [if_pos hwt] at hy
    have h3 := hy w hw
    unfold Oper.quietAt at h3
    generalize (execOp a.eval oi).run P w = r at *
    cases r with
    | ok m w' =>
      cases m <;> simp only [Oper.quietUpon] at h3 <;> simp only [anyUpon]
      case value u => obtain ⟨e1, e2⟩ := h3; rw [e1, e2]; exact ⟨hw, hK⟩
      case skip => obtain ⟨e1, e2⟩ := h3; rw [e1, ← e2]; exact ⟨hw, hK⟩
      case enter f args =>
        obtain ⟨e1, hcall⟩ := h3
        rw [e1]
        exact hcall.mono fun e w'' ⟨he, hx⟩ => ⟨v, he, by rw [hx]; exact ⟨hw, hK⟩⟩
    | halt x w' => simp only [Oper.quietUpon] at h3
  · rename_i hwt
    rw [if_neg hwt] at hy
    rw [← hy]
    exact hK
theorem wpR_first {kind : Nat → Option Bool} {i : Nat} {oi : Oper} {v : Value} {L : Array Bool → Act → World → Prop} (hi : ops[i]? = some oi) (hk : kind i ≠ none) (hsel : ∀ (j : Nat) (o : Oper) cs b, ops[j]? = some o → o.op ≠ .select cs b)
    (htw : ∀ listed, InvT md ops listed → ∀ i, kind i ≠ none → listed.getD i true = false → ∀ t ∈ Region.ready md ops listed, kind t ≠ none)
    (hdone : ∀ listed a w, L listed a w → ∀ j ∈ Region.ready md ops listed, kind j = none) :
    ∀ (k : Nat) (listed : Array Bool) (a : Act) (w : World), InvT md ops listed → R w → Free ops md listed i oi → i ∈ Region.ready md ops listed →
      (if Region.wanted oi (yielded ops a.tmps) then Flt P R oi a v else v = undef) →
      wpR P md ops R kind L k (listed.setIfInBounds i true) (a.put oi.dst v) w → wpR P md ops R kind L (k + 1) listed a w := by
  intro k
  induction k with
  | zero =>
    intro listed a w inv hw _ hr hy H
    have hun := (mem_ready.1 hr).1
    refine ⟨fun h => (by rw [h] at hr; cases hr), fun j hj => ?_⟩
    by_cases hji : j = i
    · subst hji; exact ⟨hk, take_rOp hi hw hy H⟩
    · exact absurd (hdone _ _ _ H j (ready_mono hj hji)) (htw listed inv i hk hun j hj)
  | succ k ih =>
    intro listed a w inv hw hfree hr hy H
    have hun := (mem_ready.1 hr).1
    refine ⟨fun h => (by rw [h] at hr; cases hr), fun j hj => ?_⟩
    by_cases hji : j = i
    · subst hji; exact ⟨hk, take_rOp hi hw hy H⟩
    · obtain ⟨hc, h1⟩ := H.2 j (ready_mono hj hji)
      refine ⟨hc, ?_⟩
      obtain ⟨hjun, oj, hoj, _⟩ := mem_ready.1 hj
      have hap := hfree j oj hoj hji hjun (not_waits hun hj hoj)
      obtain ⟨d1, d2, d3⟩ := Oper.apart_spec hap
      have seli := fun cs b => hsel i oi cs b hi
      have selj := fun cs b => hsel j oj cs b hoj
      have keep : ∀ u, (if Region.wanted oi (yielded ops (a.put oj.dst u).tmps) then Flt P R oi (a.put oj.dst u) v else v = undef) := fun u => by
        rw [wanted_put oi a oj.dst u d3, flt_put seli d3]; exact hy
      have go : ∀ u w', R w' → wpR P md ops R kind L k ((listed.setIfInBounds i true).setIfInBounds j true) ((a.put oi.dst v).put oj.dst u) w' → wpR P md ops R kind L (k + 1) (listed.setIfInBounds j true) (a.put oj.dst u) w' := fun u w' hw' h' => by
        refine ih _ _ _ (inv.set hj) hw' (free_set hfree hjun) (ready_mono hr (Ne.symm hji)) (keep u) ?_
        rw [Array.setIfInBounds_comm _ _ hji, ← Act.put_comm a v u d2]
        exact h'
      unfold rOp at h1 ⊢
      simp only [hoj] at h1 ⊢
      rw [wanted_put oj a oi.dst v d1, execOp_put oj selj a oi.dst v d1] at h1
      split
      · rename_i hwt
        rw [if_pos hwt] at h1
        exact anyUpon_mono (fun u w' ⟨h2, h3⟩ => ⟨h2, go u w' h2 h3⟩) h1
      · rename_i hwt
        rw [if_neg hwt] at h1
        exact go _ _ hw h1
def walkR (P : Program) (ops : Array Oper) (R : World → Prop) : List (Oper × Bool) → (Act → World → Prop) → Act → World → Prop
  | [], E, a, w => E a w
  | (o, true) :: r, E, a, w => if Region.wanted o (yielded ops a.tmps) then ∃ v, Flt P R o a v ∧ walkR P ops R r E (a.put o.dst v) w else walkR P ops R r E (a.put o.dst undef) w
  | (o, false) :: r, E, a, w => Region.wanted o (yielded ops a.tmps) = true ∧ anyUpon P (fun v w' => R w' ∧ walkR P ops R r E (a.put o.dst v) w') ((execOp a.eval o).run P w)
theorem wpR_walk {l : List Oper} {full : List (Nat × Bool)} {T : List Nat} {E : Act → World → Prop} {L : Array Bool → Act → World → Prop} (hsel : Region.noSelect l.toArray = true)
    (htw : ∀ listed, InvT md l.toArray listed → ∀ i, kindOf full i ≠ none → listed.getD i true = false → ∀ t ∈ Region.ready md l.toArray listed, kindOf full t ≠ none)
    (hdone : ∀ listed a w, L listed a w → ∀ j ∈ Region.ready md l.toArray listed, kindOf full j = none)
    (hend : ∀ listed a w, seqL md l.toArray T listed = true → E a w → L listed a w) :
    ∀ (r : List (Nat × Bool)) (listed : Array Bool) (a : Act) (w : World), (∀ p ∈ r, kindOf full p.1 = some p.2 ∧ p.1 < l.length) → InvT md l.toArray listed → R w → permC md l.toArray T r listed = true →
      walkR P l.toArray R (pickO l r) E a w → wpR P md l.toArray R (kindOf full) L r.length listed a w
  | [], listed, a, w, _, _, _, hB, h => hend listed a w hB h
  | (k, c) :: r, listed, a, w, hr, inv, hw, hB, h => by
    obtain ⟨hk, hlt⟩ := hr (k, c) List.mem_cons_self
    replace hlt : k < l.length := hlt
    replace hk : kindOf full k ≠ none := by rw [show kindOf full k = some c from hk]; exact nofun
    have h0 : l[k]? = some l[k] := List.getElem?_eq_getElem hlt
    have h0' : l.toArray[k]? = some l[k] := by simp only [List.getElem?_toArray, h0]
    have hr' : ∀ p ∈ r, kindOf full p.1 = some p.2 ∧ p.1 < l.length := fun p hp => hr p (List.mem_cons_of_mem _ hp)
    rw [pickO_some h0] at h
    cases c
    · simp only [permC, Bool.and_eq_true, decide_eq_true_eq] at hB
      obtain ⟨hwt, hA⟩ := h
      have hmem : k ∈ Region.ready md l.toArray listed := by rw [hB.1]; exact List.mem_cons_self
      refine ⟨fun h1 => (by rw [hB.1] at h1; cases h1), fun i hi => ?_⟩
      rw [hB.1] at hi
      obtain rfl : i = k := by simpa using hi
      refine ⟨hk, ?_⟩
      unfold rOp
      simp only [h0', hwt, if_true]
      exact anyUpon_mono (fun v w' ⟨h1, h2⟩ => ⟨h1, wpR_walk hsel htw hdone hend r _ _ _ hr' (inv.set hmem) h1 hB.2 h2⟩) hA
    · simp only [permC, Bool.and_eq_true] at hB
      obtain ⟨⟨hc, hf⟩, hB'⟩ := hB
      have hmem : k ∈ Region.ready md l.toArray listed := by simpa using hc
      have next : ∀ v, walkR P l.toArray R (pickO l r) E (a.put (l[k]).dst v) w → wpR P md l.toArray R (kindOf full) L r.length (listed.setIfInBounds k true) (a.put (l[k]).dst v) w := fun v hv =>
        wpR_walk hsel htw hdone hend r _ _ _ hr' (inv.set hmem) hw hB' hv
      simp only [walkR] at h
      by_cases hwt : Region.wanted l[k] (yielded l.toArray a.tmps) = true
      · rw [if_pos hwt] at h
        obtain ⟨v, hc', hK⟩ := h
        exact wpR_first (v := v) h0' hk (Region.noSelect_spec hsel) htw hdone _ listed a w inv hw (Region.free_spec h0' hf) hmem (by rw [if_pos hwt]; exact hc') (next v hK)
      · rw [if_neg hwt] at h
        exact wpR_first (v := undef) h0' hk (Region.noSelect_spec hsel) htw hdone _ listed a w inv hw (Region.free_spec h0' hf) hmem (by rw [if_neg hwt]) (next undef h)
end
/-- a world of R, if x is one -/
noncomputable def growR (S : Nat → Prop) (W x : World) : World := by classical exact if Off S W x then x else W
theorem growR_off (S : Nat → Prop) (W x : World) : Off S W (growR S W x) := by unfold growR; split; assumption; exact Off.refl _ _
theorem growR_of {S : Nat → Prop} {W x : World} (h : Off S W x) : growR S W x = x := by unfold growR; rw [if_pos h]
section
variable {P : Program} {ops : Array Oper} {S : Nat → Prop} {W : World}
/-- A REGION THAT DRAWS ITS ORDER: what leaves the world floats, all else is walked in one order, in its very world, then T; S: the blocks that the head may write -/
theorem wp_floatS {id : Nat} {Q : Exit → Act → World → Prop} {a : Act} {w : World} {l : List Oper} (S : Nat → Prop) (p : List (Nat × Bool)) (T : List Nat) (hm : P.follows .mixedOrders = true) (hB : permB .any l.toArray p T = true)
    (h : (∀ x b o, b < w.heap.size → ¬ S b → (growR S w.drew x).cell? ⟨b, o, none⟩ = w.cell? ⟨b, o, none⟩) → Off S w.drew w.drew → walkR P l.toArray (Off S w.drew) (pickO l p) (fun a' w' => wpList P l.toArray Q (pickT l T) a' w') a w.drew) : (Code.region id l.toArray true).wp P Q a w := by
  replace h := h (fun x b o hb hs => (growR_off S w.drew x).cell hb hs o) (Off.refl _ _)
  simp only [permB, Bool.and_eq_true, decide_eq_true_eq, List.all_eq_true] at hB
  obtain ⟨⟨⟨⟨⟨⟨⟨hsel, hsz⟩, hcov⟩, hTn⟩, hTw⟩, hk⟩, hTl⟩, hC⟩ := hB
  have hsz' : l.toArray.size = l.length := by simp
  have inv0 : InvT .any l.toArray (Array.replicate l.toArray.size false) :=
    ⟨by simp, fun j oj _ hl => (by rw [getD_replicate_false] at hl; cases hl)⟩
  have inT : ∀ t ∈ T, kindOf p t = none := fun t ht => by simpa using hTn t ht
  have ltT : ∀ t, t < l.toArray.size → kindOf p t = none → t ∈ T := fun t ht hn => by
    have := hcov t (List.mem_range.2 ht)
    rw [hn] at this
    simpa using this
  have htw : ∀ listed, InvT .any l.toArray listed → ∀ i, kindOf p i ≠ none → listed.getD i true = false → ∀ t ∈ Region.ready .any l.toArray listed, kindOf p t ≠ none := by
    intro listed inv i hi hun t ht hn
    obtain ⟨_, ot, hot, _⟩ := mem_ready.1 ht
    have htT := ltT t (Array.getElem?_eq_some_iff.1 hot).1 hn
    obtain ⟨q, hq⟩ : ∃ q, q ∈ p ∧ q.1 = i := by
      unfold kindOf at hi
      cases hf : p.find? fun q => decide (q.1 = i) with
      | none => rw [hf] at hi; exact absurd rfl hi
      | some q => exact ⟨q, List.mem_of_find?_eq_some hf, by simpa using List.find?_some hf⟩
    have h1 := hTw t htT q hq.1
    rw [hq.2] at h1
    exact (waitsT_not inv hun _ _ h1).2 ht
  let L : Array Bool → Act → World → Prop := fun listed a' w' => seqL .any l.toArray T listed = true ∧ wpList P l.toArray Q (pickT l T) a' w'
  have hdone : ∀ listed a w, L listed a w → ∀ j ∈ Region.ready .any l.toArray listed, kindOf p j = none := by
    intro listed a w hL j hj
    have h1 := hL.1
    match T, h1 with
    | [], h1 => simp only [seqL, List.isEmpty_iff] at h1; rw [h1] at hj; cases hj
    | t :: r, h1 =>
      simp only [seqL, Bool.and_eq_true, decide_eq_true_eq] at h1
      rw [h1.1] at hj
      obtain rfl : j = t := by simpa using hj
      exact inT j List.mem_cons_self
  have H := wpR_walk (P := P) (L := L) (T := T) hsel htw hdone (fun listed a w h1 h2 => ⟨h1, h2⟩) p _ a w.drew (fun q hq => ⟨(hk q hq).1, (by have := (hk q hq).2; rw [← hsz']; exact this)⟩) inv0 (Off.refl S _) hC h
  refine wp_region_any hm ?_
  have := wpAny_of_wpR (Q := Q) (g := T.length) (fun listed a' w' hL => seqL_wp T listed a' w' (fun t ht => (by have := hTl t ht; rw [hsz'] at this; exact this)) hL.1 hL.2) _ _ _ _ H
  rw [hsz] at this
  exact this
theorem wp_float {id : Nat} {Q : Exit → Act → World → Prop} {a : Act} {w : World} {l : List Oper} (c : Nat) (p : List (Nat × Bool)) (T : List Nat) (hm : P.follows .mixedOrders = true) (hB : permB .any l.toArray p T = true)
    (h : (∀ x b o, b < w.heap.size → ¬ b = c → (growR (fun k => k = c) w.drew x).cell? ⟨b, o, none⟩ = w.cell? ⟨b, o, none⟩) → Off (fun k => k = c) w.drew w.drew → walkR P l.toArray (Off (fun k => k = c) w.drew) (pickO l p) (fun a' w' => wpList P l.toArray Q (pickT l T) a' w') a w.drew) : (Code.region id l.toArray true).wp P Q a w :=
  wp_floatS (fun k => k = c) p T hm hB h
theorem walkR_step {o : Oper} {r : List (Oper × Bool)} {E : Act → World → Prop} {a : Act} {w : World}
    (h : ∀ K : Act → Prop, (∀ a, walkR P ops (Off S W) r E a w → K a) → if Region.wanted o (yielded ops a.tmps) then ∃ v, (∀ x, o.quietAt P a (fun w' => w' = growR S W x) (growR S W x) v) ∧ K (a.put o.dst v) else K (a.put o.dst undef)) : walkR P ops (Off S W) ((o, true) :: r) E a w := by
  have h1 := h (fun a => walkR P ops (Off S W) r E a w) (fun _ h => h)
  simp only [walkR]
  split
  · rename_i hw
    rw [if_pos hw] at h1
    obtain ⟨v, h2, h3⟩ := h1
    refine ⟨v, fun w hx => ?_, h3⟩
    have := h2 w
    rw [growR_of hx] at this
    exact this
  · rename_i hw
    rw [if_neg hw] at h1
    exact h1
theorem walkR_nil {E : Act → World → Prop} {a : Act} {w : World} (h : E a w) : walkR P ops (Off S W) [] E a w := h
/-- one of the chain -/
theorem walkR_do {o : Oper} {r : List (Oper × Bool)} {E : Act → World → Prop} {a : Act} {w : World} (hw : Region.wanted o (yielded ops a.tmps) = true)
    (h : ∀ K : Value → World → Prop, (∀ v w', Off S W w' → walkR P ops (Off S W) r E (a.put o.dst v) w' → K v w') → anyUpon P K ((execOp a.eval o).run P w)) : walkR P ops (Off S W) ((o, false) :: r) E a w :=
  ⟨hw, h _ fun _ _ h1 h2 => ⟨h1, h2⟩⟩
end
attribute [irreducible] walkR
end Go.Proofs.Ytlifhoajamnehaa
set_option linter.unusedVariables false
set_option linter.unusedSimpArgs false
set_option maxRecDepth 100000
set_option maxHeartbeats 1000000
namespace Go.Proofs.Ytlifhoajamnehaa
open Go Go.ChangeShapes Go.WideShapes Go.ChangeAt Go.RowKit
/-! the step from a walk to a row -/
theorem own : ownKnob Try.prog.godebug = none := by kernel_rfl
theorem laidOut : laidOutB Try.prog = true := by kernel_rfl

section
variable {H : Type} {enc : TypeId × Value → H} {P : Program}
theorem trodAll_stays (hl : laidOutB P = true) {W W' : World} {sp : Nat → Bool} (hb : Ext W W') : ∀ (ts : List TypeId) (vs : List Value) (ds : List (DataW H)) (ps : List MemPlace),
    (∀ t ∈ ts, P.readableRec t = true ∧ t < P.types.size) → (∀ x ∈ ps, x.block < W.heap.size) → (∀ x ∈ ps, sp x.block = true) →
    DataW.TrodAll enc P W 0 (fun _ => true) true ts vs ds ps → DataW.TrodAll enc P W' 0 sp true ts vs ds ps
  | [], vs, ds, ps, _, _, _, h => by
    obtain ⟨rfl, rfl, rfl⟩ := trodAll_nil h
    exact trodAll_mk0
  | t :: ts, vs, ds, ps, hr, hlt, hsp, h => by
    obtain ⟨v, vs', d, ds', p, q, rfl, rfl, rfl, h0, h1⟩ := trodAll_cons h
    exact trodAll_cons_mk (WideElems.Trod_stays hl (hr t (by simp)).1 (hr t (by simp)).2 h0 (fun x hx => Below.same hb (hlt x (by simp [hx]))) (fun x hx => hsp x (by simp [hx])))
      (trodAll_stays hl hb ts vs' ds' q (fun t' ht' => hr t' (by simp [ht'])) (fun x hx => hlt x (by simp [hx])) (fun x hx => hsp x (by simp [hx])) h1)

theorem post_law {f : Func} {s : ChangeSpec} {W W' : World} {args : Array Value} {ds : List (DataW H)} {before : List MemPlace}
    (hl : laidOutB P = true) (hW : DataW.Whole enc P f.params.toList s.vars false W args.toList ds [] before) (hvs : s.vars = []) (hs : (s.fn H (ds ++ [])).results = [.lit (.bool true)]) (ha : (s.fn H (ds ++ [])).args = ds) (hv0 : (s.fn H (ds ++ [])).vars = [])
    {tb : TypeId} (hrt : f.resultTypes = #[tb]) (htb : P.underlying tb = some .bool) (hr : ∀ t ∈ f.params.toList, P.readableRec t = true ∧ t < P.types.size) (hb : Ext W W') :
    s.post enc P f false true false false W args (.bool true) W' := by
  have hlt : ∀ p ∈ before, p.block < W.heap.size := fun p hp => hW.lt p hp
  have hold : ∀ p ∈ before, (fun b => decide (b < W.heap.size)) p.block = true := fun p hp => by simpa using hlt p hp
  have hW' := hW
  obtain ⟨p, q, hA, hV, rfl, hz, hn⟩ := hW
  rw [hvs] at hV
  obtain ⟨_, rfl⟩ := trodVars_none hV
  simp only [List.append_nil] at *
  have hargs : ∀ sp : Nat → Bool, (∀ x ∈ p, sp x.block = true) → DataW.TrodAll enc P W' 0 sp true f.params.toList args.toList ds p := fun sp hsp => trodAll_stays hl hb _ _ _ _ hr hlt hsp hA
  have hres : ∀ (b : Nat) (sp : Nat → Bool) (hd : Bool), DataW.TrodAll enc P W' b sp hd f.resultTypes.toList ((Value.bool true).resultList f.resultTypes.size) [.lit (.bool true)] [] := fun b sp hd => by
    rw [hrt]
    exact trodAll_cons_mk (shut_bool htb true) trodAll_mk0
  have hvars : ∀ sp : Nat → Bool, DataW.TrodVars enc P W' sp s.vars (s.fn H ds).vars [] := fun sp => by rw [hvs, hv0]; rfl
  refine ⟨ds, [], p, [], p, [], hW', by simp only [List.append_nil]; rw [hs]; exact hres _ _ _, by simp only [List.append_nil]; rw [ha]; exact hargs _ hold, by simp only [List.append_nil]; exact hvars _, World.keptBut_mono (fun x hx => ⟨hx, ?_⟩) (Below.frame hb (· ∈ p)), fun h => by cases h⟩
  simpa using hx
end
/-! arguments by value whose cells are all whole numbers -/
end Go.Proofs.Ytlifhoajamnehaa
