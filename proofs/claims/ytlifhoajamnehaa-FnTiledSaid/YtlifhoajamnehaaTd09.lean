/- Row Raw0 Byt Cur: contracts of functions, and lemmas, for this seat. Conditions: as each states. -/
import Derived.Test.YtlifhoajamnehaaRows
import Derived.Test.YtlifhoajamnehaaTd01
import Derived.WalkKit
import Derived.ProofKit
import Derived.OpenShut
import Derived.Carry
import Derived.Test.YtlifhoajamnehaaTd05
import Derived.Deep.Slices
import Derived.Test.YtlifhoajamnehaaTd08
import Derived.BigQuiet
set_option linter.unusedVariables false
set_option linter.unusedSimpArgs false
set_option maxRecDepth 100000
set_option maxHeartbeats 1000000
namespace Go.Proofs.Ytlifhoajamnehaa
open Go Go.ChangeShapes Go.WideShapes Go.ChangeAt Go.RowKit
/-! the step from a walk to a row -/
theorem own : ownKnob Try.prog.godebug = none := by kernel_rfl
theorem laidOut : laidOutB Try.prog = true := by kernel_rfl

section
variable {H : Type} {enc : TypeId × Value → H} {P : Program}
theorem trodAll_stays (hl : laidOutB P = true) {W W' : World} {sp : Nat → Bool} (hb : Ext W W') : ∀ (ts : List TypeId) (vs : List Value) (ds : List (DataW H)) (ps : List MemPlace),
    (∀ t ∈ ts, P.readableRec t = true ∧ t < P.types.size) → (∀ x ∈ ps, x.block < W.heap.size) → (∀ x ∈ ps, sp x.block = true) →
    DataW.TrodAll enc P W 0 (fun _ => true) true ts vs ds ps → DataW.TrodAll enc P W' 0 sp true ts vs ds ps
  | [], vs, ds, ps, _, _, _, h => by
    obtain ⟨rfl, rfl, rfl⟩ := trodAll_nil h
    exact trodAll_mk0
  | t :: ts, vs, ds, ps, hr, hlt, hsp, h => by
    obtain ⟨v, vs', d, ds', p, q, rfl, rfl, rfl, h0, h1⟩ := trodAll_cons h
    exact trodAll_cons_mk (WideElems.Trod_stays hl (hr t (by simp)).1 (hr t (by simp)).2 h0 (fun x hx => Below.same hb (hlt x (by simp [hx]))) (fun x hx => hsp x (by simp [hx])))
      (trodAll_stays hl hb ts vs' ds' q (fun t' ht' => hr t' (by simp [ht'])) (fun x hx => hlt x (by simp [hx])) (fun x hx => hsp x (by simp [hx])) h1)

theorem post_law {f : Func} {s : ChangeSpec} {W W' : World} {args : Array Value} {ds : List (DataW H)} {before : List MemPlace}
    (hl : laidOutB P = true) (hW : DataW.Whole enc P f.params.toList s.vars false W args.toList ds [] before) (hvs : s.vars = []) (hs : (s.fn H (ds ++ [])).results = [.lit (.bool true)]) (ha : (s.fn H (ds ++ [])).args = ds) (hv0 : (s.fn H (ds ++ [])).vars = [])
    {tb : TypeId} (hrt : f.resultTypes = #[tb]) (htb : P.underlying tb = some .bool) (hr : ∀ t ∈ f.params.toList, P.readableRec t = true ∧ t < P.types.size) (hb : Ext W W') :
    s.post enc P f false true false false W args (.bool true) W' := by
  have hlt : ∀ p ∈ before, p.block < W.heap.size := fun p hp => hW.lt p hp
  have hold : ∀ p ∈ before, (fun b => decide (b < W.heap.size)) p.block = true := fun p hp => by simpa using hlt p hp
  have hW' := hW
  obtain ⟨p, q, hA, hV, rfl, hz, hn⟩ := hW
  rw [hvs] at hV
  obtain ⟨_, rfl⟩ := trodVars_none hV
  simp only [List.append_nil] at *
  have hargs : ∀ sp : Nat → Bool, (∀ x ∈ p, sp x.block = true) → DataW.TrodAll enc P W' 0 sp true f.params.toList args.toList ds p := fun sp hsp => trodAll_stays hl hb _ _ _ _ hr hlt hsp hA
  have hres : ∀ (b : Nat) (sp : Nat → Bool) (hd : Bool), DataW.TrodAll enc P W' b sp hd f.resultTypes.toList ((Value.bool true).resultList f.resultTypes.size) [.lit (.bool true)] [] := fun b sp hd => by
    rw [hrt]
    exact trodAll_cons_mk (shut_bool htb true) trodAll_mk0
  have hvars : ∀ sp : Nat → Bool, DataW.TrodVars enc P W' sp s.vars (s.fn H ds).vars [] := fun sp => by rw [hvs, hv0]; rfl
  refine ⟨ds, [], p, [], p, [], hW', by simp only [List.append_nil]; rw [hs]; exact hres _ _ _, by simp only [List.append_nil]; rw [ha]; exact hargs _ hold, by simp only [List.append_nil]; exact hvars _, World.keptBut_mono (fun x hx => ⟨hx, ?_⟩) (Below.frame hb (· ∈ p)), fun h => by cases h⟩
  simpa using hx
end
/-! arguments by value whose cells are all whole numbers -/
def IntCells (P : Program) (t : TypeId) (n : Nat) : Prop :=
  ∀ (H : Type) (enc : TypeId × Value → H) (w : World) (base : Nat) (spare : Nat → Bool) (held : Bool) (fuel : Nat) (cs : List Value) (x : DataW H × List MemPlace), DataW.trod enc P w base spare held fuel t cs = some x →
    cs.length = n ∧ ∀ j, j < n → ∃ a : Int, cs[j]? = some (.int .i64 a) ∧ -9223372036854775808 ≤ a ∧ a ≤ 9223372036854775807
theorem ic_int {P : Program} {t : TypeId} (ht : P.underlying t = some (.int .i64)) : IntCells P t 1 := by
  intro H enc w base spare held fuel cs x h
  obtain ⟨a, rfl, _, wf⟩ := DataW.trod_int ht h
  refine ⟨rfl, fun j hj => ?_⟩
  obtain rfl : j = 0 := by omega
  exact ⟨a, rfl, bounds_i64 wf⟩
theorem piece_get {cs : List Value} {o m j : Nat} (h1 : o ≤ j) (h2 : j < o + m) : ((cs.drop o).take m)[j - o]? = cs[j]? := by
  rw [List.getElem?_take_of_lt (by omega), List.getElem?_drop]
  congr 1
  omega
theorem ic_array {P : Program} {t e : TypeId} {k m : Nat} (ht : P.underlying t = some (.array k e)) (he : IntCells P e m) (hce : P.cellsOf e = m) (hct : P.cellsOf t = k * m) (hm : 0 < m) : IntCells P t (k * m) := by
  intro H enc w base spare held fuel cs x h
  obtain ⟨xs, fu, _, _, hl, hxl, hf⟩ := DataW.trod_array ht h
  refine ⟨hl.trans hct, fun j hj => ?_⟩
  have hi : j / m < k := Nat.div_lt_of_lt_mul (by rw [Nat.mul_comm]; exact hj)
  have h1 := hf (j / m) hi
  rw [List.getElem?_eq_getElem (by omega), hce] at h1
  obtain ⟨_, h3⟩ := he H enc w base spare held fu _ _ h1
  have hmod := Nat.mod_lt j hm
  have hdm := Nat.div_add_mod j m
  rw [Nat.mul_comm] at hdm
  obtain ⟨a, h4, h5⟩ := h3 (j % m) hmod
  refine ⟨a, ?_, h5⟩
  rw [← h4, show j % m = j - j / m * m by omega]
  exact (piece_get (by omega) (by omega)).symm
theorem ic_struct {P : Program} {t : TypeId} {n : Nat} {fs : Array Field} (ht : P.underlying t = some (.struct fs)) (hct : P.cellsOf t = n)
    (hc : ∀ j, j < n → ∃ (i : Nat) (f : Field) (m : Nat), fs[i]? = some f ∧ IntCells P f.type m ∧ P.cellsOf f.type = m ∧ f.offset ≤ j ∧ j < f.offset + m) : IntCells P t n := by
  intro H enc w base spare held fuel cs x h
  obtain ⟨xs, fu, _, _, hl, hxl, hf⟩ := DataW.trod_struct ht h
  refine ⟨hl.trans hct, fun j hj => ?_⟩
  obtain ⟨i, f, m, h1, h2, h3, h4, h5⟩ := hc j hj
  have h6 := hf i f h1
  have hi : i < fs.size := (Array.getElem?_eq_some_iff.1 h1).1
  rw [List.getElem?_eq_getElem (by omega), h3] at h6
  obtain ⟨_, h7⟩ := h2 H enc w base spare held fu _ _ h6
  obtain ⟨a, h8, h9⟩ := h7 (j - f.offset) (by omega)
  exact ⟨a, by rw [← h8]; exact (piece_get h4 h5).symm, h9⟩
theorem open_ic {H : Type} {enc : TypeId × Value → H} {P : Program} {w : World} {base b0 : Nat} {spare : Nat → Bool} {held : Bool} {r : Reach} {t : TypeId} {v : Value} {d : DataW H} {p : List MemPlace} {n : Nat}
    (ht : (∃ fs, P.underlying t = some (.struct fs)) ∨ ∃ k e, P.underlying t = some (.array k e)) (hic : IntCells P t n) (hv : Value.okWide P w r b0 t v) (h : DataW.Trod enc P w base spare held t v d p) :
    ∃ f : Nat → Int, v = .agg ((List.range n).map fun j => Value.int .i64 (f j)).toArray ∧ ∀ j, j < n → -9223372036854775808 ≤ f j ∧ f j ≤ 9223372036854775807 := by
  obtain ⟨cs, rfl⟩ : ∃ cs, v = .agg cs := by
    rcases ht with ⟨fs, ht⟩ | ⟨k, e, ht⟩ <;> (simp only [Value.okWide, ht] at hv; obtain ⟨cs, h1, _⟩ := hv; exact ⟨cs, h1⟩)
  obtain ⟨fuel, hf⟩ := h
  obtain ⟨hl, hp⟩ := hic H enc w base spare held fuel _ _ hf
  simp only [Value.cells] at hl hp
  let g : Nat → Int := fun j => match cs.toList[j]? with | some (.int _ a) => a | _ => 0
  have hg : ∀ j, j < n → cs.toList[j]? = some (.int .i64 (g j)) ∧ -9223372036854775808 ≤ g j ∧ g j ≤ 9223372036854775807 := fun j hj => by
    obtain ⟨a, h1, h2⟩ := hp j hj
    have : g j = a := by show (match cs.toList[j]? with | some (.int _ a) => a | _ => 0) = a; rw [h1]
    rw [this]
    exact ⟨h1, h2⟩
  refine ⟨g, ?_, fun j hj => (hg j hj).2⟩
  have : cs.toList = (List.range n).map fun j => Value.int .i64 (g j) := by
    refine List.ext_getElem? fun j => ?_
    rcases Nat.lt_or_ge j n with hj | hj
    · rw [(hg j hj).1]; simp [hj]
    · rw [List.getElem?_eq_none (by omega), List.getElem?_eq_none (by simpa using hj)]
  rw [← this]
theorem ic_i : IntCells Try.prog 3 1 := ic_int Try.underlying3
theorem cells_i : Try.prog.cellsOf 3 = 1 := by kernel_rfl
theorem open_i {H : Type} {enc : TypeId × Value → H} {w : World} {base b0 : Nat} {spare : Nat → Bool} {held : Bool} {r : Reach} {v : Value} {d : DataW H} {p : List MemPlace} (hv : Value.okWide Try.prog w r b0 3 v) (h : DataW.Trod enc Try.prog w base spare held 3 v d p) :
    ∃ x : Int, v = .int .i64 x ∧ (-9223372036854775808 ≤ x ∧ x ≤ 9223372036854775807) := by
  obtain ⟨x, rfl, _, _, wx⟩ := open_int Try.underlying3 hv h
  exact ⟨x, rfl, bounds_i64 wx⟩
theorem cells_c : Try.prog.cellsOf 33 = 2 := by kernel_rfl
theorem ic_c : IntCells Try.prog 33 2 := ic_array Try.underlying33 ic_i cells_i cells_c (by omega)
theorem open_cell {H : Type} {enc : TypeId × Value → H} {w : World} {base b0 : Nat} {spare : Nat → Bool} {held : Bool} {r : Reach} {v : Value} {d : DataW H} {p : List MemPlace} (hv : Value.okWide Try.prog w r b0 33 v) (h : DataW.Trod enc Try.prog w base spare held 33 v d p) :
    ∃ x y : Int, v = (.agg #[.int .i64 (x), .int .i64 (y)]) ∧ (-9223372036854775808 ≤ x ∧ x ≤ 9223372036854775807) ∧ (-9223372036854775808 ≤ y ∧ y ≤ 9223372036854775807) := by
  obtain ⟨f, hf, hb⟩ := open_ic (.inr ⟨_, _, Try.underlying33⟩) ic_c hv h
  exact ⟨f 0, f 1, hf, hb 0 (by omega), hb 1 (by omega)⟩
theorem cells_a6 : Try.prog.cellsOf 24 = 6 := by kernel_rfl
theorem ic_a6 : IntCells Try.prog 24 6 := ic_array Try.underlying24 ic_i cells_i cells_a6 (by omega)
theorem cells_s : Try.prog.cellsOf 71 = 6 := by kernel_rfl
theorem ic_s : IntCells Try.prog 71 6 := ic_struct Try.underlying71 cells_s fun j hj => ⟨0, _, 6, rfl, ic_a6, cells_a6, Nat.zero_le _, by show j < 0 + 6; omega⟩
theorem open_sheet {H : Type} {enc : TypeId × Value → H} {w : World} {base b0 : Nat} {spare : Nat → Bool} {held : Bool} {r : Reach} {v : Value} {d : DataW H} {p : List MemPlace} (hv : Value.okWide Try.prog w r b0 71 v) (h : DataW.Trod enc Try.prog w base spare held 71 v d p) :
    ∃ f : Nat → Int, v = (.agg #[.int .i64 (f 0), .int .i64 (f 1), .int .i64 (f 2), .int .i64 (f 3), .int .i64 (f 4), .int .i64 (f 5)]) ∧ ∀ j, j < 6 → -9223372036854775808 ≤ f j ∧ f j ≤ 9223372036854775807 := by
  obtain ⟨f, hf, hb⟩ := open_ic (.inl ⟨_, Try.underlying71⟩) ic_s hv h
  exact ⟨f, hf, hb⟩
end Go.Proofs.Ytlifhoajamnehaa
set_option linter.unusedVariables false
set_option linter.unusedSimpArgs false
set_option maxRecDepth 100000
set_option maxHeartbeats 1000000
namespace Go.Proofs.Ytlifhoajamnehaa
open Go Go.RowKit Go.ChangeShapes Go.WideShapes
/-! a slice that is handed in: numbers in a row, wherever it lies -/
def Raw (w : World) (v : Value) (n m : Nat) (g : Nat → Int) : Prop :=
  ∃ ao cap, v = .slice ao n cap ∧ (0 < n → ∃ b o, ao = some ⟨b, o, none⟩ ∧ b < w.heap.size ∧ ∀ j, j < n * m → w.cell? ⟨b, o + j, none⟩ = some (.int .i64 (g j)))
theorem open_raw {H : Type} {enc : TypeId × Value → H} {P : Program} {w : World} {base b0 : Nat} {spare : Nat → Bool} {held : Bool} {r : Reach} {t e : TypeId} {v : Value} {d : DataW H} {p : List MemPlace} {m : Nat}
    (ht : P.underlying t = some (.slice e)) (hic : IntCells P e m) (hc : P.cellsOf e = m) (hm : 0 < m) (hv : Value.okWide P w r b0 t v) (h : DataW.Trod enc P w base spare held t v d p) :
    ∃ (n : Nat) (g : Nat → Int), Raw w v n m g ∧ n ≤ 9223372036854775807 ∧ ∀ j, j < n * m → -9223372036854775808 ≤ g j ∧ g j ≤ 9223372036854775807 := by
  obtain ⟨ao', n', cap', rfl⟩ := okWide_slice ht hv
  obtain ⟨fuel, hf⟩ := h
  rcases Go.Deep.open_slice ht hf with ⟨h1, _⟩ | ⟨a, len, cap, k, fu, D, Pl, h1, hb, hl, hmx, hk, _, hx⟩
  · simp only [Value.cells] at h1
    obtain ⟨rfl, rfl, rfl⟩ : ao' = none ∧ n' = 0 ∧ cap' = 0 := by simpa using h1
    exact ⟨0, fun _ => 0, ⟨none, 0, rfl, fun h => absurd h (by omega)⟩, by omega, fun j hj => absurd hj (by omega)⟩
  · simp only [Value.cells] at h1
    obtain ⟨rfl, rfl, rfl⟩ : ao' = some a ∧ n' = len ∧ cap' = cap := by simpa using h1
    have hlk : n' ≤ k := by rw [hk]; split <;> omega
    rw [hc] at hx
    have key : ∀ i, i < n' → ∀ q, q < m → ∃ x : Int, w.cell? (a.add (i * m + q)) = some (.int .i64 x) ∧ -9223372036854775808 ≤ x ∧ x ≤ 9223372036854775807 := by
      intro i hi q hq
      obtain ⟨cs', h2, h3⟩ := hx i (by omega)
      obtain ⟨_, h5⟩ := hic H enc w base spare held fu cs' _ h3
      obtain ⟨x, h6, h7⟩ := h5 q hq
      refine ⟨x, ?_, h7⟩
      obtain ⟨_, hlen, hcell⟩ := World.cells?_some h2
      have := hcell q hq
      rw [h6] at this
      rw [← Go.Deep.add_add]
      exact this
    let g : Nat → Int := fun j => match w.cell? (a.add j) with | some (.int _ x) => x | _ => 0
    have hg : ∀ j, j < n' * m → w.cell? (a.add j) = some (.int .i64 (g j)) ∧ -9223372036854775808 ≤ g j ∧ g j ≤ 9223372036854775807 := by
      intro j hj
      have hmod := Nat.mod_lt j hm
      have hi : j / m < n' := Nat.div_lt_of_lt_mul (by rw [Nat.mul_comm]; exact hj)
      obtain ⟨x, h2, h3⟩ := key (j / m) hi (j % m) hmod
      rw [show j / m * m + j % m = j by rw [Nat.mul_comm]; exact Nat.div_add_mod j m] at h2
      have : g j = x := by show (match w.cell? (a.add j) with | some (.int _ x) => x | _ => 0) = x; rw [h2]
      rw [this]
      exact ⟨h2, h3⟩
    refine ⟨n', g, ⟨some a, cap', rfl, fun h0 => ?_⟩, by unfold maxLen at hmx; omega, fun j hj => (hg j hj).2⟩
    have hpos : 0 < n' * m := Nat.mul_pos h0 hm
    obtain ⟨b, off, spot⟩ := a
    have hspot : spot = none := by simpa [Addr.add] using World.cell?_spot (hg 0 hpos).1
    subst hspot
    have hall : ∀ j, j < n' * m → w.cell? ⟨b, off + j, none⟩ = some (.int .i64 (g j)) := fun j hj => by rw [← Go.WideShapes.add_plain]; exact (hg j hj).1
    refine ⟨b, off, rfl, ?_, hall⟩
    have := hall 0 hpos
    rcases Nat.lt_or_ge b w.heap.size with h | h
    · exact h
    · rw [World.cell?, Array.getElem?_eq_none h] at this; cases this
theorem raw_ext {w w' : World} {v : Value} {n m : Nat} {g : Nat → Int} (h : Raw w v n m g) (hx : Ext w w') : Raw w' v n m g := by
  obtain ⟨ao, cap, hv, hs⟩ := h
  refine ⟨ao, cap, hv, fun h0 => ?_⟩
  obtain ⟨b, o, e, hb, hc⟩ := hs h0
  exact ⟨b, o, e, Nat.lt_of_lt_of_le hb hx.size, fun j hj => (hx.cells _ _ hb).trans (hc j hj)⟩
theorem made_Gl (z : Array Value) (k : Nat) (hz : ∀ j, j < z.size → z[j]! = .int .i64 0) (h0 : 0 < z.size) : (madeCells z k).toList = Gl k (fun _ => 0) := by
  unfold madeCells Gl
  simp only [Array.toList_map, Array.toList_range]
  exact List.map_congr_left fun i _ => hz _ (Nat.mod_lt _ h0)
/-- laid from a raw slice up to j -/
def upto (j : Nat) (g : Nat → Int) (i : Nat) : Int := if i < j then g i else 0
theorem up_step (m j : Nat) (g : Nat → Int) : Gl m (fun i => if i = j then g j else upto j g i) = Gl m (upto (j + 1) g) :=
  Gl_congr fun i _ => by
    show (if i = j then _ else _) = _
    unfold upto
    by_cases e : i = j
    · subst e; rw [if_pos rfl, if_pos (by omega)]
    · rw [if_neg e]
      by_cases h : i < j
      · rw [if_pos h, if_pos (by omega)]
      · rw [if_neg h, if_neg (by omega)]
theorem up_0 (m : Nat) (g : Nat → Int) : Gl m (fun _ => 0) = Gl m (upto 0 g) := Gl_congr fun i _ => by unfold upto; rw [if_neg (by omega)]
theorem up_all (m : Nat) (g : Nat → Int) : Gl m (upto m g) = Gl m g := Gl_congr fun i hi => by unfold upto; rw [if_pos hi]
end Go.Proofs.Ytlifhoajamnehaa
set_option linter.unusedVariables false
set_option linter.unusedSimpArgs false
set_option maxRecDepth 100000
set_option maxHeartbeats 1000000
namespace Go.Proofs.Ytlifhoajamnehaa
open Go Go.RowKit Go.ChangeShapes Go.WideShapes
def capOk (v : Value) : Prop := ∀ a n c, v = .slice a n c → n ≤ c
/-! a slice of bytes, wherever it lies below block C -/
def Byt (w : World) (C : Nat) (v : Value) (n : Nat) : Prop :=
  ∃ ao cap, v = .slice ao n cap ∧ (0 < n → ∃ b o, ao = some ⟨b, o, none⟩ ∧ b < C ∧ ∀ j, j < n → ∃ x : Nat, x < 256 ∧ w.cell? ⟨b, o + j, none⟩ = some (.int .u8 (x : Nat)))
theorem open_bytes {H : Type} {enc : TypeId × Value → H} {P : Program} {w : World} {base b0 : Nat} {spare : Nat → Bool} {held : Bool} {r : Reach} {t e : TypeId} {v : Value} {d : DataW H} {p : List MemPlace}
    (ht : P.underlying t = some (.slice e)) (he : P.underlying e = some (.int .u8)) (hc : P.cellsOf e = 1) (hv : Value.okWide P w r b0 t v) (h : DataW.Trod enc P w base spare held t v d p) :
    ∃ n : Nat, Byt w w.heap.size v n ∧ capOk v := by
  obtain ⟨ao', n', cap', rfl⟩ := okWide_slice ht hv
  obtain ⟨fuel, hf⟩ := h
  rcases Go.Deep.open_slice ht hf with ⟨h1, _⟩ | ⟨a, len, cap, k, fu, D, Pl, h1, hb, hl, hmx, hk, hz, hx⟩
  · simp only [Value.cells] at h1
    obtain ⟨rfl, rfl, rfl⟩ : ao' = none ∧ n' = 0 ∧ cap' = 0 := by simpa using h1
    exact ⟨0, ⟨none, 0, rfl, fun h => absurd h (by omega)⟩, fun _ _ _ h => by injection h; omega⟩
  · simp only [Value.cells] at h1
    obtain ⟨rfl, rfl, rfl⟩ : ao' = some a ∧ n' = len ∧ cap' = cap := by simpa using h1
    have hlk : n' ≤ k := by rw [hk]; split <;> omega
    rw [hc] at hx
    have key : ∀ i, i < n' → ∃ x : Nat, x < 256 ∧ w.cell? (a.add i) = some (.int .u8 (x : Nat)) := by
      intro i hi
      obtain ⟨cs', h2, h3⟩ := hx i (by omega)
      obtain ⟨x, h5, _, h6⟩ := DataW.trod_int he h3
      obtain ⟨_, hlen, hcell⟩ := World.cells?_some h2
      have := hcell 0 (by omega)
      rw [h5] at this
      obtain ⟨h7, h8⟩ := bounds_u8 h6
      obtain ⟨z, rfl⟩ : ∃ z : Nat, x = z := ⟨x.toNat, by omega⟩
      refine ⟨z, by omega, ?_⟩
      rw [Nat.mul_one] at this
      simpa [Go.Deep.add_add] using this
    refine ⟨n', ⟨some a, cap', rfl, fun h0 => ?_⟩, fun _ _ _ h => by injection h; omega⟩
    obtain ⟨b, off, spot⟩ := a
    have hspot : spot = none := by obtain ⟨x, _, h⟩ := key 0 h0; simpa [Addr.add] using World.cell?_spot h
    subst hspot
    have hall : ∀ j, j < n' → ∃ x : Nat, x < 256 ∧ w.cell? ⟨b, off + j, none⟩ = some (.int .u8 (x : Nat)) := fun j hj => by rw [← Go.WideShapes.add_plain]; exact key j hj
    refine ⟨b, off, rfl, ?_, hall⟩
    obtain ⟨x, _, this⟩ := hall 0 h0
    rcases Nat.lt_or_ge b w.heap.size with h | h
    · exact h
    · rw [World.cell?, Array.getElem?_eq_none h] at this; cases this
theorem byt_ext {w w' : World} {C : Nat} {v : Value} {n : Nat} (h : Byt w C v n) (hC : C ≤ w.heap.size) (hx : Ext w w') : Byt w' C v n := by
  obtain ⟨ao, cap, hv, hs⟩ := h
  refine ⟨ao, cap, hv, fun h0 => ?_⟩
  obtain ⟨b, o, e, hb, hc⟩ := hs h0
  exact ⟨b, o, e, hb, fun j hj => by obtain ⟨x, hx1, hx2⟩ := hc j hj; exact ⟨x, hx1, (hx.cells _ _ (Nat.lt_of_lt_of_le hb hC)).trans hx2⟩⟩
theorem byt_mono {w : World} {C D : Nat} {v : Value} {n : Nat} (h : Byt w C v n) (hC : C ≤ D) : Byt w D v n := by
  obtain ⟨ao, cap, hv, hs⟩ := h
  refine ⟨ao, cap, hv, fun h0 => ?_⟩
  obtain ⟨b, o, e, hb, hc⟩ := hs h0
  exact ⟨b, o, e, by omega, hc⟩
theorem byt_off {S : Nat → Prop} {w w' : World} {C : Nat} {v : Value} {n : Nat} (h : Byt w C v n) (hC : C ≤ w.heap.size) (hS : ∀ k, S k → C ≤ k) (hx : Off S w w') : Byt w' C v n := by
  obtain ⟨ao, cap, hv, hs⟩ := h
  refine ⟨ao, cap, hv, fun h0 => ?_⟩
  obtain ⟨b, o, e, hb, hc⟩ := hs h0
  exact ⟨b, o, e, hb, fun j hj => by obtain ⟨x, hx1, hx2⟩ := hc j hj; exact ⟨x, hx1, (hx.cell (Nat.lt_of_lt_of_le hb hC) (fun hk => by have := hS b hk; omega) _).trans hx2⟩⟩
/-- its bytes as a list -/
def byv (L : List Nat) : List Value := L.map fun x : Nat => .int .u8 (x : Nat)
theorem byv_one (L : List Nat) : ∀ u ∈ byv L, u.oneCell' = true := by
  intro u hu
  unfold byv at hu
  obtain ⟨k, _, rfl⟩ := List.mem_map.1 hu
  rfl
theorem byv_length (L : List Nat) : (byv L).length = L.length := by unfold byv; simp
theorem byv_get (L : List Nat) (j x : Nat) (h : L[j]? = some x) : (byv L)[j]? = some (.int .u8 (x : Nat)) := by unfold byv; simp [h]
theorem byv_of (L : List Nat) (j : Nat) (u : Value) (h : (byv L)[j]? = some u) : ∃ x : Nat, L[j]? = some x ∧ u = .int .u8 (x : Nat) := by
  unfold byv at h
  rw [List.getElem?_map] at h
  cases hx : L[j]? with
  | none => rw [hx] at h; cases h
  | some x => rw [hx] at h; exact ⟨x, rfl, by simpa using h.symm⟩
theorem byt_list {w : World} {C n b o : Nat} (h : ∀ j, j < n → ∃ x : Nat, x < 256 ∧ w.cell? ⟨b, o + j, none⟩ = some (.int .u8 (x : Nat))) :
    ∃ L : List Nat, L.length = n ∧ (∀ x ∈ L, x < 256) ∧ ∀ j x, L[j]? = some x → w.cell? ⟨b, o + j, none⟩ = some (.int .u8 (x : Nat)) := by
  have key : ∀ j, j < n → (∃ x : Nat, x < 256 ∧ w.cell? ⟨b, o + j, none⟩ = some (.int .u8 (x : Nat))) := h
  let g : Nat → Nat := fun j => match w.cell? ⟨b, o + j, none⟩ with | some (.int _ x) => x.toNat | _ => 0
  have hg : ∀ j, j < n → g j < 256 ∧ w.cell? ⟨b, o + j, none⟩ = some (.int .u8 (g j : Nat)) := by
    intro j hj
    obtain ⟨x, hx, hc⟩ := key j hj
    have : g j = x := by show (match w.cell? ⟨b, o + j, none⟩ with | some (.int _ x) => x.toNat | _ => 0) = x; rw [hc]; simp
    rw [this]
    exact ⟨hx, hc⟩
  refine ⟨(List.range n).map g, by simp, fun x hx => ?_, fun j x hj => ?_⟩
  · obtain ⟨j, hj, rfl⟩ := List.mem_map.1 hx
    exact (hg j (List.mem_range.1 hj)).1
  · rw [List.getElem?_map] at hj
    rcases Nat.lt_or_ge j n with h1 | h1
    · rw [List.getElem?_range h1] at hj
      obtain rfl : g j = x := by simpa using hj
      exact (hg j h1).2
    · rw [List.getElem?_eq_none (by simpa using h1)] at hj
      cases hj
theorem byt_own {w : World} {B : Nat} {e : TypeId} {v : Value} {L : List Nat} (h : w.ownsRow B e 1 v L.length (byv L)) (hL : ∀ x ∈ L, x < 256) : Byt w w.heap.size v L.length := by
  rcases h.2 with ⟨hv, hn⟩ | ⟨g, cap, cur, hv, hb, hg, hn, _⟩
  · exact ⟨none, 0, by rw [hv, hn], fun h => by omega⟩
  · subst hv
    exact ⟨some ⟨g, 0, none⟩, cap, rfl, fun _ => ⟨g, 0, rfl, row_lt hg, fun j hj => ⟨L[j], hL _ (List.getElem_mem hj), by
      rw [Nat.zero_add]
      exact (h.cellAt j (by omega)).trans (byv_get L j _ (List.getElem?_eq_getElem hj))⟩⟩⟩
theorem under_u8 : Try.prog.underlying 5 = some (.int .u8) := Try.underlying5
theorem cells_u8 : Try.prog.cellsOf 5 = 1 := by kernel_rfl
end Go.Proofs.Ytlifhoajamnehaa
set_option linter.unusedVariables false
set_option linter.unusedSimpArgs false
set_option maxRecDepth 100000
set_option maxHeartbeats 2000000
namespace Go.Proofs.Ytlifhoajamnehaa
open Go Go.RowKit Instr
/-! the cursor of the draws: block c, at most m bytes taken -/
def Cur (c m : Nat) (w : World) : Prop :=
  c < w.heap.size ∧ (∀ o, w.frozen? ⟨c, o, none⟩ = false) ∧ ∃ (v : Value) (n a : Nat) (s : Int), Byt w c v n ∧ a ≤ m ∧ 0 ≤ s ∧ s ≤ 18446744073709551615 ∧
    w.cell? ⟨c, 0, none⟩ = some v ∧ w.cell? ⟨c, 1, none⟩ = some (.int .i64 (a : Nat)) ∧ w.cell? ⟨c, 2, none⟩ = some (.int .u64 s)
theorem cur_mono {c m k : Nat} {w : World} (h : Cur c m w) (hk : m ≤ k) : Cur c k w := by
  obtain ⟨h1, h2, v, n, a, s, h3, h4, r⟩ := h
  exact ⟨h1, h2, v, n, a, s, h3, by omega, r⟩
theorem wrapr (z : Int) : 0 ≤ IntKind.u64.wrap z ∧ IntKind.u64.wrap z ≤ 18446744073709551615 := by
  rw [IntKind.wrap_u64]
  omega
theorem byte_of {z : Int} (h0 : 0 ≤ z) (h1 : z ≤ 18446744073709551615) : ∃ x : Nat, wrap64 (bits .and .u64 z 255) = (x : Nat) ∧ x < 256 := by
  obtain ⟨k, rfl⟩ : ∃ k : Nat, z = k := ⟨z.toNat, by omega⟩
  have hb : bits .and .u64 ((k : Nat) : Int) 255 = ((k &&& 255 : Nat) : Int) := u64_and_nat k 255 (by omega) (by omega)
  have hl : k &&& 255 < 256 := Nat.lt_of_le_of_lt Nat.and_le_right (by decide)
  refine ⟨k &&& 255, ?_, hl⟩
  rw [hb]
  generalize k &&& 255 = u at *
  simp only [wrap64]
  omega
/-- what a step of the cursor leaves -/
theorem cur_next {c m n a : Nat} {v : Value} {s : Int} {w W : World} (q1 q2 : Nat) (h1 : c < w.heap.size) (h2 : ∀ o, w.frozen? ⟨c, o, none⟩ = false) (hb : Byt w c v n) (ha : a ≤ m) (c0 : w.cell? ⟨c, 0, none⟩ = some v) (c1 : w.cell? ⟨c, 1, none⟩ = some (.int .i64 (a : Nat))) (z : Int) (c2 : w.cell? ⟨c, 2, none⟩ = some (.int .u64 s))
    (hW : W = ((((w.drewN q1).setCell ⟨c, 1, none⟩ (.int .i64 ((a : Int) + 1))).setCell ⟨c, 2, none⟩ (.int .u64 (IntKind.u64.wrap z))).drewN q2)) : Cur c (m + 1) W ∧ Off (fun k => k = c) w W := by
  have hO : Off (fun k => k = c) w W := by
    subst hW
    exact (Off.set (S := fun k => k = c) (Off.set (S := fun k => k = c) (((Ext.refl w).drewN q1).off _) (p := ⟨c, 1, none⟩) rfl _) (p := ⟨c, 2, none⟩) rfl _).trans (((Ext.refl _).drewN q2).off _)
  have hB : Byt W c v n := byt_off hb (Nat.le_of_lt h1) (fun k hk => by omega) hO
  refine ⟨⟨Nat.lt_of_lt_of_le h1 hO.size, fun o => ?_, v, n, a + 1, _, hB, by omega, (wrapr z).1, (wrapr z).2, ?_, ?_, ?_⟩, hO⟩
  all_goals subst hW
  · simp [h2]
  · simp only [World.cell?_drewN]
    rw [World.cell?_setCell_other _ _ _ _ (by simp), World.cell?_setCell_other _ _ _ _ (by simp)]
    exact c0
  · simp only [World.cell?_drewN]
    rw [World.cell?_setCell_other _ _ _ _ (by simp), World.cell?_setCell_same _ _ _ (show (w.drewN q1).cell? ⟨c, 1, none⟩ = _ from c1)]
    simp
  · simp only [World.cell?_drewN]
    exact World.cell?_setCell_same _ _ _ (show ((w.drewN q1).setCell ⟨c, 1, none⟩ (.int .i64 ((a : Int) + 1))).cell? ⟨c, 2, none⟩ = _ from (World.cell?_setCell_other _ _ _ _ (by simp)).trans c2)
theorem Off.free {S : Nat → Prop} {a w : World} (h : Off S a w) {b : Nat} (hb : b < a.heap.size) (hs : ¬ S b) (o : Nat) : w.frozen? ⟨b, o, none⟩ = a.frozen? ⟨b, o, none⟩ := World.frozen?_of_block (a := ⟨b, o, none⟩) (h.block b hb hs)
theorem Off.new {S : Nat → Prop} {a w : World} (h : Off S a w) {p : Addr} (hp : a.heap.size ≤ p.block) (u : Value) : Off S a (w.setCell p u) :=
  ⟨h.os, h.tape, h.output, by simpa using h.size, fun k hk hs => (heap_setCell_other w p k u (fun e => by omega)).trans (h.block k hk hs)⟩
theorem Arr.off {S : Nat → Prop} {w w' : World} {b : Nat} {g : Nat → Int} (h : Arr w b g) (hx : Off S w w') (hb : b < w.heap.size) (hs : ¬ S b) : Arr w' b g := fun j hj =>
  ⟨(hx.cell hb hs j).trans (h j hj).1, (hx.free hb hs j).trans (h j hj).2⟩
theorem Arr2.alloc {w : World} {b : Nat} {g : Nat → Int} (h : Arr2 w b g) (o : Obj) (hb : b < w.heap.size) : Arr2 (w.alloc o) b g := h.ext ((Ext.refl w).alloc o) hb
theorem Arr2.off {S : Nat → Prop} {w w' : World} {b : Nat} {g : Nat → Int} (h : Arr2 w b g) (hx : Off S w w') (hb : b < w.heap.size) (hs : ¬ S b) : Arr2 w' b g := fun j hj =>
  ⟨(hx.cell hb hs j).trans (h j hj).1, (hx.free hb hs j).trans (h j hj).2⟩
theorem cur_off {S : Nat → Prop} {c m : Nat} {w w' : World} (h : Cur c m w) (hx : Off S w w') (hS : ∀ k, S k → c < k) : Cur c m w' := by
  obtain ⟨h1, h2, v, n, a, s, hb, ha, s0, s1, c0, c1, c2⟩ := h
  have hn : ¬ S c := fun k => by have := hS c k; omega
  exact ⟨Nat.lt_of_lt_of_le h1 hx.size, fun o => (hx.free h1 hn o).trans (h2 o), v, n, a, s, byt_off hb (Nat.le_of_lt h1) (fun k hk => Nat.le_of_lt (hS k hk)) hx, ha, s0, s1, (hx.cell h1 hn 0).trans c0, (hx.cell h1 hn 1).trans c1, (hx.cell h1 hn 2).trans c2⟩
theorem cur_ext {c m : Nat} {w w' : World} (h : Cur c m w) (hx : Ext w w') : Cur c m w' := cur_off h (hx.off (fun _ => False)) (fun _ h => h.elim)
theorem cur_set {c m : Nat} {w : World} (h : Cur c m w) {p : Addr} (hp : c < p.block) (u : Value) : Cur c m (w.setCell p u) := cur_off h (Off.set (S := fun k => k = p.block) (Off.refl _ w) rfl u) (fun k hk => by omega)
theorem cur_new (w : World) (v : Value) (n : Nat) (t : TypeId) (h : Byt w w.heap.size v n) : Cur w.heap.size 0 (w.alloc (.cells #[v, .int .i64 0, .int .u64 0] t)) := by
  refine ⟨by simp, fun o => ?_, v, n, 0, 0, byt_ext h (Nat.le_refl _) ((Ext.refl w).alloc _), Nat.le_refl _, by omega, by omega, World.cell?_alloc_at _ _ _ _ rfl, World.cell?_alloc_at _ _ _ _ rfl, World.cell?_alloc_at _ _ _ _ rfl⟩
  exact World.frozen?_alloc_at _ _ _ _ rfl
/-- a list of numbers, wherever it lies -/
def Lst (w : World) (c : Nat) (u : Value) (L : List Int) : Prop := ∃ b o cap, u = .slice (some ⟨b, o, none⟩) L.length cap ∧ b ≠ c ∧ b < w.heap.size ∧ ∀ j x, L[j]? = some x → w.cell? ⟨b, o + j, none⟩ = some (.int .i64 x)
theorem lst_new (w : World) (c : Nat) (L : List Int) (t : TypeId) (hc : c < w.heap.size) (n cap : Nat) (hn : n ≤ L.length) : Lst (w.alloc (.cells (L.map (fun x => Value.int .i64 x)).toArray t)) c (.slice (some ⟨w.heap.size, 0, none⟩) n cap) (L.take n) := by
  refine ⟨w.heap.size, 0, cap, by rw [List.length_take, Nat.min_eq_left hn], by omega, by simp, fun j x h => ?_⟩
  have hj : L[j]? = some x := by
    rcases Nat.lt_or_ge j n with h1 | h1
    · rwa [List.getElem?_take_of_lt h1] at h
    · rw [List.getElem?_take_eq_none h1] at h; cases h
  refine (World.cell?_alloc_at _ _ _ _ rfl).trans ?_
  rw [Nat.zero_add]
  simp [hj]
theorem lst_newb (w : World) (c : Nat) (L : List Int) (t : TypeId) (hc : c < w.heap.size) (n cap : Nat) (hn : n ≤ L.length) (b : Nat) (hb : w.heap.size = b) : Lst (w.alloc (.cells (L.map (fun x => Value.int .i64 x)).toArray t)) c (.slice (some ⟨b, 0, none⟩) n cap) (L.take n) := by
  subst hb
  exact lst_new w c L t hc n cap hn
theorem lst_off {w w' : World} {c : Nat} {u : Value} {L : List Int} (h : Lst w c u L) (hO : Off (fun k => k = c) w w') : Lst w' c u L := by
  obtain ⟨b, o, cap, hu, hb, hbw, hcl⟩ := h
  exact ⟨b, o, cap, hu, hb, Nat.lt_of_lt_of_le hbw hO.size, fun j x hj => (hO.cell hbw hb _).trans (hcl j x hj)⟩
theorem next_n (c m : Nat) (hm : m + 1 ≤ 1099511627776) (w : World) (h : Cur c m w) : Calls Try.prog 139 #[.pointer (some ⟨c, 0, none⟩)] w fun e w' => ∃ x : Nat, e = .returned (.int .i64 (x : Nat)) ∧ x < 256 ∧ Cur c (m + 1) w' ∧ Off (fun k => k = c) w w' := by
  obtain ⟨h1, h2, v, n, a, s, hb, ha, hs0, hs1, c0, c1, c2⟩ := h
  have f0 := h2 0
  have f1 := h2 1
  have f2 := h2 2
  have HB := Lib.hid hb
  obtain ⟨ao, cap, rfl, hbs⟩ := hb
  by_cases hlt : a < n
  · obtain ⟨b, o, rfl, hbc, hcl⟩ := hbs (by omega)
    obtain ⟨x, hx, hxc⟩ := hcl a hlt
    clear hbs hcl
    go_enter Try.func139, Try.ntmps139
    go_wp2
    go_quiet (fail)
    go_wp2
    go_quiet (fail)
    go_wp2
    go_quiet (fail)
    go_wp2
    go_returns
    obtain ⟨r1, r2⟩ := cur_next _ _ h1 h2 HB.out ha c0 c1 _ c2 rfl
    exact ⟨x, rfl, hx, r1, r2⟩
  · go_enter Try.func139, Try.ntmps139
    go_wp2
    go_quiet (fail)
    go_wp2
    go_quiet (fail)
    go_wp2
    go_returns
    obtain ⟨r1, r2⟩ := cur_next _ _ h1 h2 HB.out ha c0 c1 _ c2 rfl
    have hwr := wrapr (IntKind.u64.wrap (IntKind.u64.wrap (s * 6364136223846793005)) + 462197)
    obtain ⟨x, hx, hx2⟩ := byte_of (z := IntKind.u64.wrap (IntKind.u64.wrap (IntKind.u64.wrap (s * 6364136223846793005)) + 462197) / 1099511627776) (by omega) (by omega)
    exact ⟨x, congrArg (fun z => Ending.returned (.int .i64 z)) hx, hx2, r1, r2⟩
theorem pick_n (c m k : Nat) (hk : 1 ≤ k) (hk2 : k ≤ 1048576) (hm : m + 2 ≤ 1099511627776) (w : World) (h : Cur c m w) : Calls Try.prog 83 #[.pointer (some ⟨c, 0, none⟩), .int .i64 (k : Nat)] w fun e w' => ∃ x : Nat, e = .returned (.int .i64 (x : Nat)) ∧ x < k ∧ Cur c (m + 2) w' ∧ Off (fun k => k = c) w w' := by
  have HC := Lib.hid h
  clear h
  by_cases h1 : k ≤ 1
  · go_enter Try.func83, Try.ntmps83
    go_wp2
    go_returns
    exact ⟨0, rfl, by omega, cur_mono HC.out (by omega), Off.refl _ _⟩
  · by_cases h2 : 200 < k
    · go_enter Try.func83, Try.ntmps83
      go_wp2_with (first | (go_at_call 139; refine (next_n c m (by omega) _ HC.out).mono ?_; rintro e w1 ⟨x, rfl, hx, hc, hO⟩; replace HC := Lib.hid hc; clear hc; have HO := Lib.hid hO; clear hO) | (go_at_call 139; refine (next_n c (m + 1) (by omega) _ HC.out).mono ?_; rintro e w2 ⟨y, rfl, hy, hc, hO⟩; replace HC := Lib.hid hc; clear hc; replace HO := Lib.hid (HO.out.trans hO); clear hO))
      go_returns
      exact ⟨(x * 256 + y) % k, by first | rfl | simp, Nat.mod_lt _ (by omega), cur_mono HC.out (by omega), HO.out⟩
    · go_enter Try.func83, Try.ntmps83
      go_wp2_with (go_at_call 139; refine (next_n c m (by omega) _ HC.out).mono ?_; rintro e w1 ⟨x, rfl, hx, hc, hO⟩; replace HC := Lib.hid hc; clear hc; have HO := Lib.hid hO; clear hO)
      go_returns
      exact ⟨x % k, by first | rfl | simp, Nat.mod_lt _ (by omega), cur_mono HC.out (by omega), HO.out⟩
theorem one_n (c m k : Nat) (hk : 1 ≤ k) (hk2 : k ≤ 1048576) (hm : m + 2 ≤ 1099511627776) (w : World) (h : Cur c m w) : Calls Try.prog 82 #[.pointer (some ⟨c, 0, none⟩), .int .i64 (k : Nat)] w fun e w' => ∃ b : Bool, e = .returned (.bool b) ∧ Cur c (m + 2) w' ∧ Off (fun k => k = c) w w' := by
  have HC := Lib.hid h
  clear h
  go_enter Try.func82, Try.ntmps82
  go_wp2_with (go_at_call 83; refine (pick_n c m k hk hk2 hm _ HC.out).mono ?_; rintro e w1 ⟨x, rfl, hx, hc, hO⟩; replace HC := Lib.hid hc; clear hc; have HO := Lib.hid hO; clear hO)
  go_returns
  exact ⟨_, rfl, HC.out, HO.out⟩
theorem among_n (c m : Nat) (L : List Int) (hL : 1 ≤ L.length) (hL2 : L.length ≤ 1000) (hm : m + 2 ≤ 1099511627776) (u : Value) (w : World) (h : Cur c m w) (hu : Lst w c u L) : Calls Try.prog 88 #[.pointer (some ⟨c, 0, none⟩), u] w fun e w' => ∃ x, x ∈ L ∧ e = .returned (.int .i64 x) ∧ Cur c (m + 2) w' ∧ Off (fun k => k = c) w w' := by
  have HC := Lib.hid h
  clear h
  obtain ⟨b, o, cap, rfl, hb, hbw, hcl⟩ := hu
  go_enter Try.func88, Try.ntmps88
  go_wp2_with (go_at_call 83; refine (pick_n c m L.length hL (by omega) hm _ HC.out).mono ?_; rintro e w1 ⟨x, rfl, hx, hc, hO⟩; replace HC := Lib.hid hc; clear hc; have q := (hO.cell hbw hb (o + x)).trans (hcl x _ (List.getElem?_eq_getElem hx)); have HO := Lib.hid hO; clear hO; have HX := Lib.hid (List.getElem_mem hx); generalize L[x] = z at *)
  go_returns
  exact ⟨_, HX.out, rfl, HC.out, HO.out⟩
end Go.Proofs.Ytlifhoajamnehaa
