/- CurS: contracts of functions, and lemmas, for this seat. Conditions: as each states. -/
import Derived.Test.YtadnfocbfabjnabCur
set_option linter.unusedVariables false
set_option maxRecDepth 100000
set_option maxHeartbeats 1000000
namespace Go.Proofs.Ytadnfocbfabjnab
open Go Go.RowKit Instr
/-! a draw that builds a sheet: cursor block c, result block p (white), sheet block b -/
structure Sht (c m p b : Nat) (w wr : World) (g : Nat → Int) : Prop where
  cur : Cur c m wr
  off : Off (fun k => k = c) w wr
  res : Arr wr p (fun _ => 0)
  lres : p < wr.heap.size
  arr : Arr wr b g
  larr : b < wr.heap.size
theorem Sht.call {c m k p b : Nat} {w wr w' : World} {g : Nat → Int} (h : Sht c m p b w wr g) (hp : p ≠ c) (hb : b ≠ c) (hc : Cur c k w') (hO : Off (fun k => k = c) wr w') : Sht c k p b w w' g :=
  ⟨hc, h.off.trans hO, h.res.off hO h.lres hp, Nat.lt_of_lt_of_le h.lres hO.size, h.arr.off hO h.larr hb, Nat.lt_of_lt_of_le h.larr hO.size⟩
theorem Sht.ext {c m p b : Nat} {w wr w' : World} {g : Nat → Int} (h : Sht c m p b w wr g) (hx : Ext wr w') : Sht c m p b w w' g :=
  ⟨cur_ext h.cur hx, h.off.trans (hx.off _), h.res.ext hx h.lres, Nat.lt_of_lt_of_le h.lres hx.size, h.arr.ext hx h.larr, Nat.lt_of_lt_of_le h.larr hx.size⟩
theorem Sht.mono {c m k p b : Nat} {w wr : World} {g : Nat → Int} (h : Sht c m p b w wr g) (hk : m ≤ k) : Sht c k p b w wr g := ⟨cur_mono h.cur hk, h.off, h.res, h.lres, h.arr, h.larr⟩
theorem Sht.set {c m p b : Nat} {w wr : World} {g : Nat → Int} (h : Sht c m p b w wr g) (hcb : c < b) (hwb : w.heap.size ≤ b) (hpb : p ≠ b) {q : Nat} (hq : q < 6) (v : Int) : Sht c m p b w (wr.setCell ⟨b, q, none⟩ (.int .i64 v)) (fun j => if j = q then v else g j) :=
  ⟨cur_set h.cur hcb _, h.off.new hwb _, h.res.far (fun e => hpb e.symm) _, by simpa using h.lres, h.arr.set hq v, by simpa using h.larr⟩
theorem Sht.six {c m p b : Nat} {w wr : World} {g : Nat → Int} (h : Sht c m p b w wr g) (hcb : c < b) (hwb : w.heap.size ≤ b) (hpb : p ≠ b) (v : Nat → Int) :
    Sht c m p b w ((((((wr.setCell ⟨b, 0, none⟩ (.int .i64 (v 0))).setCell ⟨b, 1, none⟩ (.int .i64 (v 1))).setCell ⟨b, 2, none⟩ (.int .i64 (v 2))).setCell ⟨b, 3, none⟩ (.int .i64 (v 3))).setCell ⟨b, 4, none⟩ (.int .i64 (v 4))).setCell ⟨b, 5, none⟩ (.int .i64 (v 5))) v := by
  have k := (((((h.set hcb hwb hpb (q := 0) (by decide) (v 0)).set hcb hwb hpb (q := 1) (by decide) (v 1)).set hcb hwb hpb (q := 2) (by decide) (v 2)).set hcb hwb hpb (q := 3) (by decide) (v 3)).set hcb hwb hpb (q := 4) (by decide) (v 4)).set hcb hwb hpb (q := 5) (by decide) (v 5)
  exact ⟨k.cur, k.off, k.res, k.lres, h.arr.six v, k.larr⟩
/-- the result is written -/
theorem Sht.out {c m p b : Nat} {w wr : World} {g : Nat → Int} (h : Sht c m p b w wr g) (hcp : c < p) (hwp : w.heap.size ≤ p) (v : Nat → Int) :
    Arr ((((((wr.setCell ⟨p, 0, none⟩ (.int .i64 (v 0))).setCell ⟨p, 1, none⟩ (.int .i64 (v 1))).setCell ⟨p, 2, none⟩ (.int .i64 (v 2))).setCell ⟨p, 3, none⟩ (.int .i64 (v 3))).setCell ⟨p, 4, none⟩ (.int .i64 (v 4))).setCell ⟨p, 5, none⟩ (.int .i64 (v 5))) p v ∧
    Cur c m ((((((wr.setCell ⟨p, 0, none⟩ (.int .i64 (v 0))).setCell ⟨p, 1, none⟩ (.int .i64 (v 1))).setCell ⟨p, 2, none⟩ (.int .i64 (v 2))).setCell ⟨p, 3, none⟩ (.int .i64 (v 3))).setCell ⟨p, 4, none⟩ (.int .i64 (v 4))).setCell ⟨p, 5, none⟩ (.int .i64 (v 5))) ∧
    Off (fun k => k = c) w ((((((wr.setCell ⟨p, 0, none⟩ (.int .i64 (v 0))).setCell ⟨p, 1, none⟩ (.int .i64 (v 1))).setCell ⟨p, 2, none⟩ (.int .i64 (v 2))).setCell ⟨p, 3, none⟩ (.int .i64 (v 3))).setCell ⟨p, 4, none⟩ (.int .i64 (v 4))).setCell ⟨p, 5, none⟩ (.int .i64 (v 5))) :=
  ⟨h.res.six v, cur_set (cur_set (cur_set (cur_set (cur_set (cur_set h.cur hcp _) hcp _) hcp _) hcp _) hcp _) hcp _, (((((h.off.new hwp _).new hwp _).new hwp _).new hwp _).new hwp _).new hwp _⟩
theorem ret_cells2 {P : Program} {fn : Func} {p q : Tmp} {ty tz : TypeId} {tmps : Array Value} {a b : Addr} {v x : Value} {w : World} (h : fn.results = #[.cell p ty, .cell q tz]) (hp : tmps.getD p undef = .pointer (some a)) (hq : tmps.getD q undef = .pointer (some b)) (hl : (loadVar ty a).run P w = .ok v w) (hm : (loadVar tz b).run P w = .ok x w) : (results fn tmps).run P w = .ok (.tuple #[v, x]) w := by
  have hp' : tmps[p]?.getD undef = .pointer (some a) := by simpa using hp
  have hq' : tmps[q]?.getD undef = .pointer (some b) := by simpa using hq
  simp only [results, h]
  have e : (asAddr (.pointer (some a))).run P w = .ok a w := rfl
  have e2 : (asAddr (.pointer (some b))).run P w = .ok b w := rfl
  simp [Sem.run_bind, Result.andThen, hp', hl, hq', hm, e, e2]
abbrev set6 (w : World) (b : Nat) (v : Nat → Int) : World := (((((w.setCell ⟨b, 0, none⟩ (.int .i64 (v 0))).setCell ⟨b, 1, none⟩ (.int .i64 (v 1))).setCell ⟨b, 2, none⟩ (.int .i64 (v 2))).setCell ⟨b, 3, none⟩ (.int .i64 (v 3))).setCell ⟨b, 4, none⟩ (.int .i64 (v 4))).setCell ⟨b, 5, none⟩ (.int .i64 (v 5))
theorem Arr.far6 {w : World} {b q : Nat} {g : Nat → Int} (h : Arr w b g) (hq : q ≠ b) (v : Nat → Int) : Arr (set6 w q v) b g :=
  (((((h.far (p := ⟨q, 0, none⟩) hq _).far (p := ⟨q, 1, none⟩) hq _).far (p := ⟨q, 2, none⟩) hq _).far (p := ⟨q, 3, none⟩) hq _).far (p := ⟨q, 4, none⟩) hq _).far (p := ⟨q, 5, none⟩) hq _
theorem Off.six {S : Nat → Prop} {a w : World} (h : Off S a w) {q : Nat} (hq : a.heap.size ≤ q) (v : Nat → Int) : Off S a (set6 w q v) :=
  (((((h.new (p := ⟨q, 0, none⟩) hq _).new (p := ⟨q, 1, none⟩) hq _).new (p := ⟨q, 2, none⟩) hq _).new (p := ⟨q, 3, none⟩) hq _).new (p := ⟨q, 4, none⟩) hq _).new (p := ⟨q, 5, none⟩) hq _
theorem Off.six_in {S : Nat → Prop} {a w : World} (h : Off S a w) {q : Nat} (hq : S q) (v : Nat → Int) : Off S a (set6 w q v) :=
  (((((h.set (p := ⟨q, 0, none⟩) hq _).set (p := ⟨q, 1, none⟩) hq _).set (p := ⟨q, 2, none⟩) hq _).set (p := ⟨q, 3, none⟩) hq _).set (p := ⟨q, 4, none⟩) hq _).set (p := ⟨q, 5, none⟩) hq _
theorem cur_six {c m : Nat} {w : World} (h : Cur c m w) {q : Nat} (hq : c < q) (v : Nat → Int) : Cur c m (set6 w q v) :=
  cur_set (cur_set (cur_set (cur_set (cur_set (cur_set h (p := ⟨q, 0, none⟩) hq _) (p := ⟨q, 1, none⟩) hq _) (p := ⟨q, 2, none⟩) hq _) (p := ⟨q, 3, none⟩) hq _) (p := ⟨q, 4, none⟩) hq _) (p := ⟨q, 5, none⟩) hq _
/-- two result sheets are written -/
theorem two_out {S : Nat → Prop} {a w : World} {p q : Nat} {g h : Nat → Int} (hp : Arr w p g) (hq : Arr w q h) (hpq : p ≠ q) (hO : Off S a w) (ap : a.heap.size ≤ p) (aq : a.heap.size ≤ q) (r s : Nat → Int) :
    Arr (set6 (set6 w p r) q s) p r ∧ Arr (set6 (set6 w p r) q s) q s ∧ Off S a (set6 (set6 w p r) q s) :=
  ⟨(hp.six r).far6 (fun e => hpq e.symm) s, (hq.far6 hpq r).six s, (hO.six ap r).six aq s⟩
end Go.Proofs.Ytadnfocbfabjnab
