/- NeedM: contracts of functions, and lemmas, for this seat. Conditions: as each states. -/
import Derived.Test.YtlifhoajamnehaaPerm
import Derived.Test.YtlifhoajamnehaaAppB
import Derived.Test.YtlifhoajamnehaaInk
set_option linter.unusedVariables false
set_option maxRecDepth 100000
set_option maxHeartbeats 1000000
namespace Go.Proofs.Ytlifhoajamnehaa
open Go Go.RowKit Instr
/-! append on a row of the region's own, inside a region that draws -/
theorem run_append_perm {P : Program} {W w : World} (base : Nat) (t ty e : TypeId) (i : TypeInfo) (z : Value) (size bytes : Nat) (ht : P.underlying t = some (.slice e)) (hi : P.info? e = some i) (hz : i.zero = some z)
    (hsize : i.size = size) (hby : i.bytes = bytes) (hzs : z.cells.size = size) (hsz : 0 < size) (v : Value) (n : Nat) (xs : List Value) (hown : w.ownsRow base e size v n xs) (hW : W.heap.size ≤ base) (hx : Ext W w)
    (a : Addr) (m c : Nat) (news : List Value) (hl : news.length = m * size) (hnews : ∀ j u, news[j]? = some u → w.cell? (a.add j) = some u) (h1 : ∀ u ∈ news, u.oneCell' = true)
    (h63 : n + m ≤ maxLen) (hbytes : (n + m) * bytes ≤ 140737488355328) (hbase : base ≤ w.heap.size) :
    ∃ v' w', (Builtin.append_ #[t, t] ty #[v, .slice (some a) m c]).run P w = .ok v' w' ∧ w'.ownsRow base e size v' (n + m) (xs ++ news) ∧ Ext W w' ∧ w.heap.size ≤ w'.heap.size := by
  obtain ⟨v', w', hr, h2, h3, _⟩ := run_append_own (P := P) w base t ty e i z size bytes ht hi hz hsize hby hzs hsz v n xs hown a m c news hl hnews h1 h63 hbytes hbase
  have hlt := hown.lt
  exact ⟨v', w', hr, h2, .of (hx.below.grown h3 hx.size (fun k hk => by have := (hlt k hk).1; omega)), h3.size⟩
section
variable {P : Program} {ops : Array Oper} {W : World}
/-- an append inside a region that draws: all that is known thereafter is the row (and what the region's start knew) -/
theorem walkP_append {o : Oper} {r : List (Oper × Bool)} {R : Post} {a : Act} {F : World → Prop} (hw : Region.wanted o (yielded ops a.tmps) = true) (s x : Operand) (t : TypeId)
    (ho : o.op = .call { callee := .builtin .append, args := #[s, x], argTypes := #[t, t] })
    (base : Nat) (e : TypeId) (i : TypeInfo) (z : Value) (size bytes : Nat) (ht : P.underlying t = some (.slice e)) (hi : P.info? e = some i) (hz : i.zero = some z)
    (hsize : i.size = size) (hby : i.bytes = bytes) (hzs : z.cells.size = size) (hsz : 0 < size) (hW : W.heap.size ≤ base)
    (v : Value) (n : Nat) (xs : List Value) (hs : a.eval s = v) (ad : Addr) (m c : Nat) (news : List Value) (hx : a.eval x = .slice (some ad) m c) (hl : news.length = m * size) (h1 : ∀ u ∈ news, u.oneCell' = true)
    (h63 : n + m ≤ maxLen) (hbytes : (n + m) * bytes ≤ 140737488355328)
    (hF : ∀ w, Ext W w → F w → w.ownsRow base e size v n xs ∧ base ≤ w.heap.size ∧ ∀ j u, news[j]? = some u → w.cell? (ad.add j) = some u)
    (h : ∀ x, walkP P ops W r R (a.put o.dst x) (fun w => w.ownsRow base e size x (n + m) (xs ++ news) ∧ base ≤ w.heap.size)) : walkP P ops W ((o, false) :: r) R a F := by
  simp only [walkP]
  exact ⟨hw, fun v => v, fun x w => w.ownsRow base e size x (n + m) (xs ++ news) ∧ base ≤ w.heap.size, fun _ => ⟨fun x _ _ hx h => ⟨own_ext h.1 hx, Nat.le_trans h.2 hx.size⟩, fun w hxw hFw => by
    obtain ⟨hown, hbase, hnews⟩ := hF w hxw hFw
    obtain ⟨v', w', hr, h2, h3, h4⟩ := run_append_perm (P := P) (W := W) (w := w) base t o.type e i z size bytes ht hi hz hsize hby hzs hsz v n xs hown hW hxw ad m c news hl hnews h1 h63 hbytes hbase
    simp [execOp, ho, resolve, invoke, builtin, hs, hx, hr, anyUpon, Result.andThen]
    exact ⟨h3, h2, Nat.le_trans hbase h4⟩⟩, h⟩
/-- walkP_call with an abstract goal, so that a simp set leaves it alone -/
theorem walkP_callR {o : Oper} {r : List (Oper × Bool)} {R : Post} {a : Act} {F : World → Prop} (f : Value → Value) (V : Value → World → Prop) (hV : ∀ x, Stable (V x)) (hw : Region.wanted o (yielded ops a.tmps) = true)
    (hc : ∀ w, Ext W w → F w → ∀ R : Value → World → Prop, (∀ x w', Ext w w' → V x w' → R (f x) w') → anyUpon P R ((execOp a.eval o).run P w))
    (h : ∀ x, walkP P ops W r R (a.put o.dst (f x)) (fun w => F w ∧ V x w)) : walkP P ops W ((o, false) :: r) R a F :=
  walkP_call f V hV hw (fun w hx hF => hc w hx hF _ (fun x w' h1 h2 => ⟨x, rfl, h1, h2⟩)) h
end
end Go.Proofs.Ytlifhoajamnehaa
