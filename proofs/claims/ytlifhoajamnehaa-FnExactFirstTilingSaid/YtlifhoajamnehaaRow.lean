/- Row: contracts of functions, and lemmas, for this seat. Conditions: as each states. -/
import Derived.Test.YtlifhoajamnehaaRows
import Derived.Test.YtlifhoajamnehaaReg
import Derived.WalkKit
import Derived.ProofKit
import Derived.OpenShut
import Derived.Carry
set_option linter.unusedVariables false
set_option maxRecDepth 100000
set_option maxHeartbeats 1000000
namespace Go.Proofs.Ytlifhoajamnehaa
open Go Go.ChangeShapes Go.WideShapes Go.ChangeAt Go.RowKit
/-! the step from a walk to a row -/
theorem own : ownKnob Try.prog.godebug = none := by kernel_rfl
theorem laidOut : laidOutB Try.prog = true := by kernel_rfl

section
variable {H : Type} {enc : TypeId × Value → H} {P : Program}
theorem trodAll_stays (hl : laidOutB P = true) {W W' : World} {sp : Nat → Bool} (hb : Ext W W') : ∀ (ts : List TypeId) (vs : List Value) (ds : List (DataW H)) (ps : List MemPlace),
    (∀ t ∈ ts, P.readableRec t = true ∧ t < P.types.size) → (∀ x ∈ ps, x.block < W.heap.size) → (∀ x ∈ ps, sp x.block = true) →
    DataW.TrodAll enc P W 0 (fun _ => true) true ts vs ds ps → DataW.TrodAll enc P W' 0 sp true ts vs ds ps
  | [], vs, ds, ps, _, _, _, h => by
    obtain ⟨rfl, rfl, rfl⟩ := trodAll_nil h
    exact trodAll_mk0
  | t :: ts, vs, ds, ps, hr, hlt, hsp, h => by
    obtain ⟨v, vs', d, ds', p, q, rfl, rfl, rfl, h0, h1⟩ := trodAll_cons h
    exact trodAll_cons_mk (WideElems.Trod_stays hl (hr t (by simp)).1 (hr t (by simp)).2 h0 (fun x hx => Below.same hb (hlt x (by simp [hx]))) (fun x hx => hsp x (by simp [hx])))
      (trodAll_stays hl hb ts vs' ds' q (fun t' ht' => hr t' (by simp [ht'])) (fun x hx => hlt x (by simp [hx])) (fun x hx => hsp x (by simp [hx])) h1)

theorem post_law {f : Func} {s : ChangeSpec} {W W' : World} {args : Array Value} {ds : List (DataW H)} {before : List MemPlace}
    (hl : laidOutB P = true) (hW : DataW.Whole enc P f.params.toList s.vars false W args.toList ds [] before) (hvs : s.vars = []) (hs : (s.fn H (ds ++ [])).results = [.lit (.bool true)]) (ha : (s.fn H (ds ++ [])).args = ds) (hv0 : (s.fn H (ds ++ [])).vars = [])
    {tb : TypeId} (hrt : f.resultTypes = #[tb]) (htb : P.underlying tb = some .bool) (hr : ∀ t ∈ f.params.toList, P.readableRec t = true ∧ t < P.types.size) (hb : Ext W W') :
    s.post enc P f false true false false W args (.bool true) W' := by
  have hlt : ∀ p ∈ before, p.block < W.heap.size := fun p hp => hW.lt p hp
  have hold : ∀ p ∈ before, (fun b => decide (b < W.heap.size)) p.block = true := fun p hp => by simpa using hlt p hp
  have hW' := hW
  obtain ⟨p, q, hA, hV, rfl, hz, hn⟩ := hW
  rw [hvs] at hV
  obtain ⟨_, rfl⟩ := trodVars_none hV
  simp only [List.append_nil] at *
  have hargs : ∀ sp : Nat → Bool, (∀ x ∈ p, sp x.block = true) → DataW.TrodAll enc P W' 0 sp true f.params.toList args.toList ds p := fun sp hsp => trodAll_stays hl hb _ _ _ _ hr hlt hsp hA
  have hres : ∀ (b : Nat) (sp : Nat → Bool) (hd : Bool), DataW.TrodAll enc P W' b sp hd f.resultTypes.toList ((Value.bool true).resultList f.resultTypes.size) [.lit (.bool true)] [] := fun b sp hd => by
    rw [hrt]
    exact trodAll_cons_mk (shut_bool htb true) trodAll_mk0
  have hvars : ∀ sp : Nat → Bool, DataW.TrodVars enc P W' sp s.vars (s.fn H ds).vars [] := fun sp => by rw [hvs, hv0]; rfl
  refine ⟨ds, [], p, [], p, [], hW', by simp only [List.append_nil]; rw [hs]; exact hres _ _ _, by simp only [List.append_nil]; rw [ha]; exact hargs _ hold, by simp only [List.append_nil]; exact hvars _, World.keptBut_mono (fun x hx => ⟨hx, ?_⟩) (Below.frame hb (· ∈ p)), fun h => by cases h⟩
  simpa using hx
end
/-! arguments by value whose cells are all whole numbers -/
def IntCells (P : Program) (t : TypeId) (n : Nat) : Prop :=
  ∀ (H : Type) (enc : TypeId × Value → H) (w : World) (base : Nat) (spare : Nat → Bool) (held : Bool) (fuel : Nat) (cs : List Value) (x : DataW H × List MemPlace), DataW.trod enc P w base spare held fuel t cs = some x →
    cs.length = n ∧ ∀ j, j < n → ∃ a : Int, cs[j]? = some (.int .i64 a) ∧ -9223372036854775808 ≤ a ∧ a ≤ 9223372036854775807
theorem ic_int {P : Program} {t : TypeId} (ht : P.underlying t = some (.int .i64)) : IntCells P t 1 := by
  intro H enc w base spare held fuel cs x h
  obtain ⟨a, rfl, _, wf⟩ := DataW.trod_int ht h
  refine ⟨rfl, fun j hj => ?_⟩
  obtain rfl : j = 0 := by omega
  exact ⟨a, rfl, bounds_i64 wf⟩
theorem piece_get {cs : List Value} {o m j : Nat} (h1 : o ≤ j) (h2 : j < o + m) : ((cs.drop o).take m)[j - o]? = cs[j]? := by
  rw [List.getElem?_take_of_lt (by omega), List.getElem?_drop]
  congr 1
  omega
theorem ic_array {P : Program} {t e : TypeId} {k m : Nat} (ht : P.underlying t = some (.array k e)) (he : IntCells P e m) (hce : P.cellsOf e = m) (hct : P.cellsOf t = k * m) (hm : 0 < m) : IntCells P t (k * m) := by
  intro H enc w base spare held fuel cs x h
  obtain ⟨xs, fu, _, _, hl, hxl, hf⟩ := DataW.trod_array ht h
  refine ⟨hl.trans hct, fun j hj => ?_⟩
  have hi : j / m < k := Nat.div_lt_of_lt_mul (by rw [Nat.mul_comm]; exact hj)
  have h1 := hf (j / m) hi
  rw [List.getElem?_eq_getElem (by omega), hce] at h1
  obtain ⟨_, h3⟩ := he H enc w base spare held fu _ _ h1
  have hmod := Nat.mod_lt j hm
  have hdm := Nat.div_add_mod j m
  rw [Nat.mul_comm] at hdm
  obtain ⟨a, h4, h5⟩ := h3 (j % m) hmod
  refine ⟨a, ?_, h5⟩
  rw [← h4, show j % m = j - j / m * m by omega]
  exact (piece_get (by omega) (by omega)).symm
theorem ic_struct {P : Program} {t : TypeId} {n : Nat} {fs : Array Field} (ht : P.underlying t = some (.struct fs)) (hct : P.cellsOf t = n)
    (hc : ∀ j, j < n → ∃ (i : Nat) (f : Field) (m : Nat), fs[i]? = some f ∧ IntCells P f.type m ∧ P.cellsOf f.type = m ∧ f.offset ≤ j ∧ j < f.offset + m) : IntCells P t n := by
  intro H enc w base spare held fuel cs x h
  obtain ⟨xs, fu, _, _, hl, hxl, hf⟩ := DataW.trod_struct ht h
  refine ⟨hl.trans hct, fun j hj => ?_⟩
  obtain ⟨i, f, m, h1, h2, h3, h4, h5⟩ := hc j hj
  have h6 := hf i f h1
  have hi : i < fs.size := (Array.getElem?_eq_some_iff.1 h1).1
  rw [List.getElem?_eq_getElem (by omega), h3] at h6
  obtain ⟨_, h7⟩ := h2 H enc w base spare held fu _ _ h6
  obtain ⟨a, h8, h9⟩ := h7 (j - f.offset) (by omega)
  exact ⟨a, by rw [← h8]; exact (piece_get h4 h5).symm, h9⟩
theorem open_ic {H : Type} {enc : TypeId × Value → H} {P : Program} {w : World} {base b0 : Nat} {spare : Nat → Bool} {held : Bool} {r : Reach} {t : TypeId} {v : Value} {d : DataW H} {p : List MemPlace} {n : Nat}
    (ht : (∃ fs, P.underlying t = some (.struct fs)) ∨ ∃ k e, P.underlying t = some (.array k e)) (hic : IntCells P t n) (hv : Value.okWide P w r b0 t v) (h : DataW.Trod enc P w base spare held t v d p) :
    ∃ f : Nat → Int, v = .agg ((List.range n).map fun j => Value.int .i64 (f j)).toArray ∧ ∀ j, j < n → -9223372036854775808 ≤ f j ∧ f j ≤ 9223372036854775807 := by
  obtain ⟨cs, rfl⟩ : ∃ cs, v = .agg cs := by
    rcases ht with ⟨fs, ht⟩ | ⟨k, e, ht⟩ <;> (simp only [Value.okWide, ht] at hv; obtain ⟨cs, h1, _⟩ := hv; exact ⟨cs, h1⟩)
  obtain ⟨fuel, hf⟩ := h
  obtain ⟨hl, hp⟩ := hic H enc w base spare held fuel _ _ hf
  simp only [Value.cells] at hl hp
  let g : Nat → Int := fun j => match cs.toList[j]? with | some (.int _ a) => a | _ => 0
  have hg : ∀ j, j < n → cs.toList[j]? = some (.int .i64 (g j)) ∧ -9223372036854775808 ≤ g j ∧ g j ≤ 9223372036854775807 := fun j hj => by
    obtain ⟨a, h1, h2⟩ := hp j hj
    have : g j = a := by show (match cs.toList[j]? with | some (.int _ a) => a | _ => 0) = a; rw [h1]
    rw [this]
    exact ⟨h1, h2⟩
  refine ⟨g, ?_, fun j hj => (hg j hj).2⟩
  have : cs.toList = (List.range n).map fun j => Value.int .i64 (g j) := by
    refine List.ext_getElem? fun j => ?_
    rcases Nat.lt_or_ge j n with hj | hj
    · rw [(hg j hj).1]; simp [hj]
    · rw [List.getElem?_eq_none (by omega), List.getElem?_eq_none (by simpa using hj)]
  rw [← this]
theorem ic_i : IntCells Try.prog 3 1 := ic_int Try.underlying3
theorem cells_i : Try.prog.cellsOf 3 = 1 := by kernel_rfl
theorem open_i {H : Type} {enc : TypeId × Value → H} {w : World} {base b0 : Nat} {spare : Nat → Bool} {held : Bool} {r : Reach} {v : Value} {d : DataW H} {p : List MemPlace} (hv : Value.okWide Try.prog w r b0 3 v) (h : DataW.Trod enc Try.prog w base spare held 3 v d p) :
    ∃ x : Int, v = .int .i64 x ∧ (-9223372036854775808 ≤ x ∧ x ≤ 9223372036854775807) := by
  obtain ⟨x, rfl, _, _, wx⟩ := open_int Try.underlying3 hv h
  exact ⟨x, rfl, bounds_i64 wx⟩
theorem cells_c : Try.prog.cellsOf 33 = 2 := by kernel_rfl
theorem ic_c : IntCells Try.prog 33 2 := ic_array Try.underlying33 ic_i cells_i cells_c (by omega)
theorem open_cell {H : Type} {enc : TypeId × Value → H} {w : World} {base b0 : Nat} {spare : Nat → Bool} {held : Bool} {r : Reach} {v : Value} {d : DataW H} {p : List MemPlace} (hv : Value.okWide Try.prog w r b0 33 v) (h : DataW.Trod enc Try.prog w base spare held 33 v d p) :
    ∃ x y : Int, v = (.agg #[.int .i64 (x), .int .i64 (y)]) ∧ (-9223372036854775808 ≤ x ∧ x ≤ 9223372036854775807) ∧ (-9223372036854775808 ≤ y ∧ y ≤ 9223372036854775807) := by
  obtain ⟨f, hf, hb⟩ := open_ic (.inr ⟨_, _, Try.underlying33⟩) ic_c hv h
  exact ⟨f 0, f 1, hf, hb 0 (by omega), hb 1 (by omega)⟩
theorem cells_a6 : Try.prog.cellsOf 24 = 6 := by kernel_rfl
theorem ic_a6 : IntCells Try.prog 24 6 := ic_array Try.underlying24 ic_i cells_i cells_a6 (by omega)
theorem cells_s : Try.prog.cellsOf 71 = 6 := by kernel_rfl
theorem ic_s : IntCells Try.prog 71 6 := ic_struct Try.underlying71 cells_s fun j hj => ⟨0, _, 6, rfl, ic_a6, cells_a6, Nat.zero_le _, by show j < 0 + 6; omega⟩
theorem open_sheet {H : Type} {enc : TypeId × Value → H} {w : World} {base b0 : Nat} {spare : Nat → Bool} {held : Bool} {r : Reach} {v : Value} {d : DataW H} {p : List MemPlace} (hv : Value.okWide Try.prog w r b0 71 v) (h : DataW.Trod enc Try.prog w base spare held 71 v d p) :
    ∃ f : Nat → Int, v = (.agg #[.int .i64 (f 0), .int .i64 (f 1), .int .i64 (f 2), .int .i64 (f 3), .int .i64 (f 4), .int .i64 (f 5)]) ∧ ∀ j, j < 6 → -9223372036854775808 ≤ f j ∧ f j ≤ 9223372036854775807 := by
  obtain ⟨f, hf, hb⟩ := open_ic (.inl ⟨_, Try.underlying71⟩) ic_s hv h
  exact ⟨f, hf, hb⟩
end Go.Proofs.Ytlifhoajamnehaa
