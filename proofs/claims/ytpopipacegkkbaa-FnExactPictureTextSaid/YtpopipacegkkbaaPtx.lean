/- Ptx: contracts of functions, and lemmas, for this seat. Conditions: as each states. -/
import Derived.Test.YtpopipacegkkbaaPict
import Derived.Test.YtpopipacegkkbaaSl
import Derived.Laws.BytesArg
import Derived.Laws.Strings2
set_option linter.unusedVariables false
set_option maxRecDepth 100000
set_option maxHeartbeats 2000000
namespace Go.Proofs.Ytpopipacegkkbaa
open Go Go.RowKit Instr
def chN (c : Int) : Int := if c = 0 then 46 else 48 + c
def ty (p : Nat → Int) : Nat → List Int
  | 0 => []
  | y + 1 => ty p y ++ (if y = 0 then [] else [47]) ++ (List.range 6).map fun x => chN (p (y * 6 + x))
def tx (p : Nat → Int) (y x : Nat) : List Int := ty p y ++ (if y = 0 then [] else [47]) ++ (List.range x).map fun x => chN (p (y * 6 + x))
theorem tx_0 (p : Nat → Int) : tx p 0 0 = [] := rfl
theorem tx_s (p : Nat → Int) {y : Nat} (h : 0 < y) : tx p y 0 = ty p y ++ [47] := by unfold tx; rw [if_neg (by omega)]; simp
theorem tx_6 (p : Nat → Int) (y : Nat) : tx p y 6 = ty p (y + 1) := rfl
theorem ty_0 (p : Nat → Int) : ty p 0 = [] := rfl
theorem tx_1 (p : Nat → Int) (y x : Nat) : tx p y (x + 1) = tx p y x ++ [chN (p (y * 6 + x))] := by unfold tx; rw [List.range_succ, List.map_append, ← List.append_assoc]; rfl
theorem ty_len (p : Nat → Int) : ∀ y, (ty p y).length ≤ y * 7
  | 0 => by rw [ty_0]; simp
  | y + 1 => by
    have := ty_len p y
    rw [ty]
    simp only [List.length_append, List.length_map, List.length_range]
    split <;> simp <;> omega
theorem tx_len (p : Nat → Int) (y x : Nat) : (tx p y x).length ≤ y * 7 + 1 + x := by
  have := ty_len p y
  unfold tx
  simp only [List.length_append, List.length_map, List.length_range]
  split <;> simp <;> omega
attribute [irreducible] ty tx
theorem str_app (L M : List Int) : strOfNums L ++ strOfNums M = strOfNums (L ++ M) := by
  apply ByteArray.ext
  rw [ByteArray.data_append]
  simp [strOfNums]
theorem str_nil : strOfNums [] = { data := #[] } := rfl
theorem inR_five {c : Int} (h : inR c 0 4 = true) : c = 0 ∨ c = 1 ∨ c = 2 ∨ c = 3 ∨ c = 4 := by
  have := (inR_iff _ _ _).1 h
  omega
theorem sPictureText_bad (p : Nat → Int) (h : picB p = false) (w : World) : Calls Try.prog 7 #[.agg (av 36 p)] w fun e w' => e = .returned (.tuple #[.string (strOfNums []), .bool false]) ∧ Ext w w' := by
  have HP := Lib.hid (fun w => (h ▸ l8Picture_any p w : Calls Try.prog 43 #[.agg (av 36 p)] w fun e w' => e = .returned (.bool false) ∧ Ext w w'))
  clear h
  skip
  go_enter Try.func7, Try.ntmps7
  go_wp2_with (first | (refine wpList_load_row rfl 28 (.tmp 1) rfl _ rfl _ _ _ _ (Big.new w 28 36 p rfl) Try.underlying28 rfl (szIP _) ?_; (try go_simp)) | (go_at_call 43; refine (HP.out _).mono ?_; rintro e w1 ⟨rfl, hE⟩; replace HA := Lib.hid ((show Big _ (w.heap.size) 28 36 (p) by first | exact HA.out | exact Big.new36 _ _ (by first | rfl | (simp; done) | (simp; omega)) | exact Big.new _ _ _ _ (by first | rfl | (simp; done) | (simp; omega)) | exact (Big.new _ _ _ _ (by first | rfl | (simp; done) | (simp; omega))).ext ((Ext.refl _).alloc _) | exact ((Big.new _ _ _ _ (by first | rfl | (simp; done) | (simp; omega))).ext ((Ext.refl _).alloc _)).ext ((Ext.refl _).alloc _)).ext hE)))
  go_returns
  exact ⟨rfl, (by (repeat' (first | (with_reducible exact Ext.refl _) | (with_reducible assumption) | (with_reducible refine Ext.alloc ?_ _) | (with_reducible refine Ext.drew ?_) | (with_reducible refine Ext.drewN ?_ _) | (with_reducible refine Ext.setCell ?_ ?_ _) | (with_reducible refine Ext.trans ?_ (by assumption)))) <;> (first | (with_reducible assumption) | omega | (simp; done) | (simp; omega)))⟩
theorem sPictureText_ok (p : Nat → Int) (h : picB p = true) (w : World) : Calls Try.prog 7 #[.agg (av 36 p)] w fun e w' => e = .returned (.tuple #[.string (strOfNums (ty p 6)), .bool true]) ∧ Ext w w' := by
  have HP := Lib.hid (fun w => (h ▸ l8Picture_any p w : Calls Try.prog 43 #[.agg (av 36 p)] w fun e w' => e = .returned (.bool true) ∧ Ext w w'))
  have HC := Lib.hid ((picB_iff p).1 h)
  clear h
  skip
  go_enter Try.func7, Try.ntmps7
  go_wp2_with (first | (refine wpList_load_row rfl 28 (.tmp 1) rfl _ rfl _ _ _ _ (Big.new w 28 36 p rfl) Try.underlying28 rfl (szIP _) ?_; (try go_simp)) | ((go_at_call 43; refine (HP.out _).mono ?_; rintro e w1 ⟨rfl, hE⟩; replace HA := Lib.hid ((show Big _ (w.heap.size) 28 36 (p) by first | exact HA.out | exact Big.new36 _ _ (by first | rfl | (simp; done) | (simp; omega)) | exact Big.new _ _ _ _ (by first | rfl | (simp; done) | (simp; omega)) | exact (Big.new _ _ _ _ (by first | rfl | (simp; done) | (simp; omega))).ext ((Ext.refl _).alloc _) | exact ((Big.new _ _ _ _ (by first | rfl | (simp; done) | (simp; omega))).ext ((Ext.refl _).alloc _)).ext ((Ext.refl _).alloc _)).ext hE)); obtain ⟨wa, rfl⟩ : ∃ x, x = w1 := ⟨_, rfl⟩))
  go_loopw [4, 5] (fun s i wr => ∃ y : Nat, y ≤ 6 ∧ i = .int .i64 y ∧ s = .string (strOfNums (ty p y)) ∧ Ext wa wr) (fun _ i _ => 6 - (intOf i).toNat)
  case atStart => exact ⟨0, Nat.zero_le _, rfl, by rw [ty_0]; rfl, (by (repeat' (first | (with_reducible exact Ext.refl _) | (with_reducible assumption) | (with_reducible refine Ext.alloc ?_ _) | (with_reducible refine Ext.drew ?_) | (with_reducible refine Ext.drewN ?_ _) | (with_reducible refine Ext.setCell ?_ ?_ _) | (with_reducible refine Ext.trans ?_ (by assumption)))) <;> (first | (with_reducible assumption) | omega | (simp; done) | (simp; omega)))⟩
  case round =>
    obtain ⟨y, hy, rfl, rfl, hx⟩ := hrel
    obtain ⟨wo, rfl⟩ : ∃ wo : World, wo = wr := ⟨_, rfl⟩
    have HA1 := Lib.hid (HA.out.ext hx)
    by_cases hlt : y < 6
    · have hd : decide ((y : Int) < 6) = true := decide_eq_true (by omega)
      have hs1 : (strOfNums (ty p y)).size ≤ 60 := by rw [strOfNums_size]; have := ty_len p y; omega
      go_wp2
      all_goals
        go_loopw [4, 6] (fun s i wr => ∃ x : Nat, x ≤ 6 ∧ i = .int .i64 x ∧ s = .string (strOfNums (tx p y x)) ∧ Ext wo wr) (fun _ i _ => 6 - (intOf i).toNat)
        case atStart => exact ⟨0, Nat.zero_le _, rfl, by first | rw [tx_s p (by assumption), ← str_app]; rfl | (rw [show y = 0 by omega, tx_0, ty_0]), Ext.refl _⟩
        case round =>
          obtain ⟨x, hx6, rfl, rfl, hx2⟩ := hrel
          obtain ⟨wi, rfl⟩ : ∃ wi : World, wi = wr := ⟨_, rfl⟩
          have HA2 := Lib.hid (HA1.out.ext hx2)
          by_cases hlx : x < 6
          · have c1 := HA2.out.cell (j := y * 6 + x) (by omega)
            have hp := HC.out (y * 6 + x) (by omega)
            have HT := Lib.hid (tx_1 p y x)
            have hs2 : (strOfNums (tx p y x)).size ≤ 60 := by rw [strOfNums_size]; have := tx_len p y x; omega
            generalize p (y * 6 + x) = c at *
            have ht : decide ((x : Int) < 6) = true := decide_eq_true (by omega)
            rcases inR_five hp with rfl | rfl | rfl | rfl | rfl
            all_goals
              go_wp2
              (first | exact ⟨⟨x + 1, by omega, by go_num, by rw [HT.out, ← str_app]; rfl, (by (repeat' (first | (with_reducible exact Ext.refl _) | (with_reducible assumption) | (with_reducible refine Ext.alloc ?_ _) | (with_reducible refine Ext.drew ?_) | (with_reducible refine Ext.drewN ?_ _) | (with_reducible refine Ext.setCell ?_ ?_ _) | (with_reducible refine Ext.trans ?_ (by assumption)))) <;> (first | (with_reducible assumption) | omega | (simp; done) | (simp; omega)))⟩, by simp [intOf]; omega⟩ | (refine ⟨?_, by simp [intOf]; omega⟩; (repeat apply Exists.intro); exact ⟨⟨x + 1, by omega, by go_num, by rw [HT.out, ← str_app]; rfl, (by (repeat' (first | (with_reducible exact Ext.refl _) | (with_reducible assumption) | (with_reducible refine Ext.alloc ?_ _) | (with_reducible refine Ext.drew ?_) | (with_reducible refine Ext.drewN ?_ _) | (with_reducible refine Ext.setCell ?_ ?_ _) | (with_reducible refine Ext.trans ?_ (by assumption)))) <;> (first | (with_reducible assumption) | omega | (simp; done) | (simp; omega)))⟩, rfl⟩))
          · obtain rfl : x = 6 := by omega
            rw [tx_6]
            go_wp2
            (first | exact ⟨⟨y + 1, by omega, by go_num, rfl, (by (repeat' (first | (with_reducible exact Ext.refl _) | (with_reducible assumption) | (with_reducible refine Ext.alloc ?_ _) | (with_reducible refine Ext.drew ?_) | (with_reducible refine Ext.drewN ?_ _) | (with_reducible refine Ext.setCell ?_ ?_ _) | (with_reducible refine Ext.trans ?_ (by assumption)))) <;> (first | (with_reducible assumption) | omega | (simp; done) | (simp; omega)))⟩, by simp [intOf]; omega⟩ | (refine ⟨?_, by simp [intOf]; omega⟩; (repeat apply Exists.intro); exact ⟨⟨y + 1, by omega, by go_num, rfl, (by (repeat' (first | (with_reducible exact Ext.refl _) | (with_reducible assumption) | (with_reducible refine Ext.alloc ?_ _) | (with_reducible refine Ext.drew ?_) | (with_reducible refine Ext.drewN ?_ _) | (with_reducible refine Ext.setCell ?_ ?_ _) | (with_reducible refine Ext.trans ?_ (by assumption)))) <;> (first | (with_reducible assumption) | omega | (simp; done) | (simp; omega)))⟩, rfl⟩))
    · obtain rfl : y = 6 := by omega
      go_wp2
      go_returns
      exact ⟨rfl, (by (repeat' (first | (with_reducible exact Ext.refl _) | (with_reducible assumption) | (with_reducible refine Ext.alloc ?_ _) | (with_reducible refine Ext.drew ?_) | (with_reducible refine Ext.drewN ?_ _) | (with_reducible refine Ext.setCell ?_ ?_ _) | (with_reducible refine Ext.trans ?_ (by assumption)))) <;> (first | (with_reducible assumption) | omega | (simp; done) | (simp; omega)))⟩
def bys (L : List Int) : List Value := L.map fun c => Value.int .u8 c
theorem bys_append (L M : List Int) : bys (L ++ M) = bys L ++ bys M := List.map_append
theorem bys_length (L : List Int) : (bys L).length = L.length := by unfold bys; simp
theorem bys_ones (L : List Int) : ∀ u ∈ bys L, u.oneCell' = true := by
  intro u hu
  unfold bys at hu
  obtain ⟨k, _, rfl⟩ := List.mem_map.1 hu
  rfl
theorem info_byte : (Try.prog.info? 5).map (fun i => (i.zero, i.size, i.bytes)) = some (some (.int .u8 0), 1, 1) := by kernel_rfl
theorem one_cell_at {w : World} {v : Value} {e : TypeId} {b : Nat} (hb : b = w.heap.size) (j : Nat) (u : Value) (h : [v][j]? = some u) : (w.alloc (.cells #[v] e)).cell? ((⟨b, 0, none⟩ : Addr).add j) = some u := by
  subst hb
  exact one_cell j u h
theorem arr_grown {w w' : World} {b : Nat} {g : Nat → Int} {row : Option Nat} (h : Arr w b g) (hg : w.grownBy w' row) (hb : b < w.heap.size) (hne : some b ≠ row) : Arr w' b g := fun j hj =>
  ⟨(World.cell?_of_block (a := ⟨b, j, none⟩) (hg.block b hb hne)).trans (h j hj).1, (World.frozen?_of_block (a := ⟨b, j, none⟩) (hg.block b hb hne)).trans (h j hj).2⟩
theorem own_txt {w : World} {B : Nat} {u : Value} {L : List Int} (h : w.ownsRow B 5 1 u L.length (bys L)) (src : TypeId) (hs : Try.prog.underlying src = some (.slice 5)) : ∀ dst, Try.prog.underlying dst = some .string → (convert src dst u).run Try.prog w = .ok (.string (strOfNums L)) w := by
  intro dst hd
  rcases h.2 with ⟨hv, hn⟩ | ⟨g, cap, cur, hv, hb, hg, hn, _⟩
  · subst hv
    rw [List.eq_nil_of_length_eq_zero hn]
    exact run_convert_bytes_nil w src 5 hs Try.underlying5 _ _ dst hd
  · subst hv
    refine run_convert_bytes_arg w src 5 hs Try.underlying5 g 0 L.length cap L rfl (fun i hi => ?_) dst hd
    rw [Nat.zero_add]
    refine (h.cellAt i (by rw [Nat.mul_one]; exact hi)).trans ?_
    unfold bys
    rw [List.getElem?_map, List.getElem?_eq_getElem hi]
    simp [List.getD, List.getElem?_eq_getElem hi]
theorem PictureText_bad (p : Nat → Int) (h : picB p = false) (w : World) : Calls Try.prog 9 #[.agg (av 36 p)] w fun e w' => e = .returned (.tuple #[.string (strOfNums []), .bool false]) ∧ Ext w w' := by
  have HP := Lib.hid (fun w => (h ▸ IsPicture_any p w : Calls Try.prog 45 #[.agg (av 36 p)] w fun e w' => e = .returned (.bool false) ∧ Ext w w'))
  clear h
  skip
  go_enter Try.func9, Try.ntmps9
  go_wp2_with (first | (refine wpList_load_row rfl 28 (.tmp 1) rfl _ rfl _ _ _ _ (Big.new w 28 36 p rfl) Try.underlying28 rfl (szIP _) ?_; (try go_simp)) | (go_at_call 45; refine (HP.out _).mono ?_; rintro e w1 ⟨rfl, hE⟩; replace HA := Lib.hid ((show Big _ (w.heap.size) 28 36 (p) by first | exact HA.out | exact Big.new36 _ _ (by first | rfl | (simp; done) | (simp; omega)) | exact Big.new _ _ _ _ (by first | rfl | (simp; done) | (simp; omega)) | exact (Big.new _ _ _ _ (by first | rfl | (simp; done) | (simp; omega))).ext ((Ext.refl _).alloc _) | exact ((Big.new _ _ _ _ (by first | rfl | (simp; done) | (simp; omega))).ext ((Ext.refl _).alloc _)).ext ((Ext.refl _).alloc _)).ext hE)))
  go_returns
  exact ⟨rfl, (by (repeat' (first | (with_reducible exact Ext.refl _) | (with_reducible assumption) | (with_reducible refine Ext.alloc ?_ _) | (with_reducible refine Ext.drew ?_) | (with_reducible refine Ext.drewN ?_ _) | (with_reducible refine Ext.setCell ?_ ?_ _) | (with_reducible refine Ext.trans ?_ (by assumption)))) <;> (first | (with_reducible assumption) | omega | (simp; done) | (simp; omega)))⟩
theorem PictureText_ok (p : Nat → Int) (h : picB p = true) (w : World) : Calls Try.prog 9 #[.agg (av 36 p)] w fun e w' => e = .returned (.tuple #[.string (strOfNums (ty p 6)), .bool true]) ∧ Ext w w' := by
  obtain ⟨i0, hi, iz0, iz1, iz2⟩ := info_parts info_byte
  have HP := Lib.hid (fun w => (h ▸ IsPicture_any p w : Calls Try.prog 45 #[.agg (av 36 p)] w fun e w' => e = .returned (.bool true) ∧ Ext w w'))
  have HC := Lib.hid ((picB_iff p).1 h)
  clear h
  skip
  go_enter Try.func9, Try.ntmps9
  go_wp2_with (first | (refine wpList_load_row rfl 28 (.tmp 1) rfl _ rfl _ _ _ _ (Big.new w 28 36 p rfl) Try.underlying28 rfl (szIP _) ?_; (try go_simp)) | ((go_at_call 45; refine (HP.out _).mono ?_; rintro e w1 ⟨rfl, hE⟩; replace HA := Lib.hid ((show Big _ (w.heap.size) 28 36 (p) by first | exact HA.out | exact Big.new36 _ _ (by first | rfl | (simp; done) | (simp; omega)) | exact Big.new _ _ _ _ (by first | rfl | (simp; done) | (simp; omega)) | exact (Big.new _ _ _ _ (by first | rfl | (simp; done) | (simp; omega))).ext ((Ext.refl _).alloc _) | exact ((Big.new _ _ _ _ (by first | rfl | (simp; done) | (simp; omega))).ext ((Ext.refl _).alloc _)).ext ((Ext.refl _).alloc _)).ext hE)); obtain ⟨wa, rfl⟩ : ∃ x, x = w1 := ⟨_, rfl⟩; have HA5 := Lib.hid (HA.out.ext ((Ext.refl wa).alloc (.cells #[] 5)))) | (refine wpList_fieldAt (v := .pointer (some ⟨w.heap.size, 0, none⟩)) rfl rfl (by simp only [execOp]; go_simp; done) ?_; (try go_simp)) | (refine wpList_load_row rfl 23 (.tmp 13) rfl _ rfl _ _ _ _ HA5.out Try.underlying23 rfl (sz36 _) ?_; (try go_simp)))
  have hxa : Ext w wa := (by (repeat' (first | (with_reducible exact Ext.refl _) | (with_reducible assumption) | (with_reducible refine Ext.alloc ?_ _) | (with_reducible refine Ext.drew ?_) | (with_reducible refine Ext.drewN ?_ _) | (with_reducible refine Ext.setCell ?_ ?_ _) | (with_reducible refine Ext.trans ?_ (by assumption)))) <;> (first | (with_reducible assumption) | omega | (simp; done) | (simp; omega)))
  have hsz := hxa.size
  go_loopw [4, 15] (fun u i wr => ∃ y : Nat, y ≤ 6 ∧ i = .int .i64 y ∧ Ext wa wr ∧ wr.ownsRow wa.heap.size 5 1 u (ty p y).length (bys (ty p y))) (fun _ i _ => 6 - (intOf i).toNat)
  case atStart => exact ⟨0, Nat.zero_le _, rfl, (by (repeat' (first | (with_reducible exact Ext.refl _) | (with_reducible assumption) | (with_reducible refine Ext.alloc ?_ _) | (with_reducible refine Ext.drew ?_) | (with_reducible refine Ext.drewN ?_ _) | (with_reducible refine Ext.setCell ?_ ?_ _) | (with_reducible refine Ext.trans ?_ (by assumption)))) <;> (first | (with_reducible assumption) | omega | (simp; done) | (simp; omega))), by rw [ty_0]; exact own_empty _ 5 1 _ (Nat.le_refl _) rfl⟩
  case round =>
    obtain ⟨y, hy, rfl, hx, ho⟩ := hrel
    obtain ⟨wo, rfl⟩ : ∃ wo : World, wo = wr := ⟨_, rfl⟩
    obtain ⟨uo, uc, rfl, _⟩ := own_shape ho
    have HO := Lib.hid ho
    clear ho
    have hsx := hx.size
    by_cases hlt : y < 6
    · have hd : decide ((y : Int) < 6) = true := decide_eq_true (by omega)
      have hl1 := ty_len p y
      have i1 := idxP p y hlt
      have HR := Lib.hid (Arr.new wo (rowP p y) 22 (b := wo.heap.size) rfl)
      go_wp2_with (at_builtin; refine wpList_append_own _ rfl _ _ 40 rfl wa.heap.size 5 i0 (.int .u8 0) 1 1 Try.underlying40 hi iz0 iz1 iz2 rfl (by decide) _ _ _ rfl ((HO.out.alloc _).alloc _) ⟨_, 0, none⟩ 1 1 [.int .u8 47] rfl rfl (one_cell_at (by simp)) (by simp [Value.oneCell']) (by unfold maxLen; omega) (by omega) (by simp; omega) ?_; intro v1 w2 hown hgrow _; have HR2 := arr_grown (HR.out.alloc (.cells #[.int .u8 47] 5) (by simp)) hgrow (by simp; omega) (fun e => by have := (HO.out.lt _ e.symm).2; omega); obtain ⟨⟨d0, d1, d2, d3, d4, d5⟩, _⟩ := HR2.all; have HPS := Lib.hid (own_push (hx.alloc (.cells #[.int .i64 (rowP p y 0), .int .i64 (rowP p y 1), .int .i64 (rowP p y 2), .int .i64 (rowP p y 3), .int .i64 (rowP p y 4), .int .i64 (rowP p y 5)] 22)) (Nat.le_refl _) (HO.out.alloc _) hgrow).1; have HW := Lib.hid hown)
      all_goals
        (try simp only [show decide (0 < y) = false from decide_eq_false (by assumption)])
        go_loopw [4, 25] (fun u i wr => ∃ x : Nat, x ≤ 6 ∧ i = .int .i64 x ∧ Ext wa wr ∧ wr.ownsRow wa.heap.size 5 1 u (tx p y x).length (bys (tx p y x))) (fun _ i _ => 6 - (intOf i).toNat)
        case atStart =>
          first
            | exact ⟨0, Nat.zero_le _, rfl, HPS.out, by rw [tx_s p (by assumption), List.length_append, bys_append]; exact HW.out⟩
            | (have hy0 : y = 0 := by omega
               rw [hy0] at HO
               refine ⟨0, Nat.zero_le _, rfl, hx.alloc _, ?_⟩
               rw [hy0, tx_0]
               rw [ty_0] at HO ⊢
               exact HO.out.alloc _)
        case round =>
          clear HR
          obtain ⟨x, hx6, rfl, hx2, ho2⟩ := hrel
          obtain ⟨wi, rfl⟩ : ∃ wi : World, wi = wr := ⟨_, rfl⟩
          obtain ⟨to, tc, rfl, _⟩ := own_shape ho2
          have HO2 := Lib.hid ho2
          clear ho2
          have hs2 := hx2.size
          by_cases hlx : x < 6
          · have i2 := idxR (rowP p y) x hlx
            rw [show rowP p y x = p (y * 6 + x) from rfl] at i2
            have hp := HC.out (y * 6 + x) (by omega)
            have HT := Lib.hid (tx_1 p y x)
            have hl2 := tx_len p y x
            have ht : decide ((x : Int) < 6) = true := decide_eq_true (by omega)
            generalize p (y * 6 + x) = c at *
            rcases inR_five hp with rfl | rfl | rfl | rfl | rfl
            all_goals
              go_wp2_with (at_builtin; refine wpList_append_own _ rfl _ _ 40 rfl wa.heap.size 5 i0 (.int .u8 0) 1 1 Try.underlying40 hi iz0 iz1 iz2 rfl (by decide) _ _ _ rfl (HO2.out.alloc _) ⟨_, 0, none⟩ 1 1 [_] rfl rfl one_cell (by simp [Value.oneCell']) (by unfold maxLen; omega) (by omega) (by simp; omega) ?_; intro v1 w2 hown hgrow _)
              have HPS2 := Lib.hid (own_push hx2 (Nat.le_refl _) HO2.out hgrow).1
              have HW2 := Lib.hid (show w2.ownsRow wa.heap.size 5 1 v1 (tx p y (x + 1)).length (bys (tx p y (x + 1))) by rw [HT.out, List.length_append, bys_append]; exact hown)
              (refine ⟨?_, by simp [intOf]; omega⟩; repeat (first | exact ⟨x + 1, by omega, by go_num, HPS2.out, HW2.out⟩ | exact ⟨⟨x + 1, by omega, by go_num, HPS2.out, HW2.out⟩, rfl⟩ | apply Exists.intro))
          · obtain rfl : x = 6 := by omega
            rw [tx_6] at HO2 ⊢
            go_wp2
            (first | exact ⟨⟨y + 1, by omega, by go_num, hx2, HO2.out⟩, by simp [intOf]; omega⟩ | (refine ⟨?_, by simp [intOf]; omega⟩; (repeat apply Exists.intro); exact ⟨⟨y + 1, by omega, by go_num, hx2, HO2.out⟩, rfl⟩))
    · obtain rfl : y = 6 := by omega
      have HV := own_txt HO.out 40 Try.underlying40 9 Try.underlying9
      go_wp2
      go_returns
      exact ⟨rfl, (by (repeat' (first | (with_reducible exact Ext.refl _) | (with_reducible assumption) | (with_reducible refine Ext.alloc ?_ _) | (with_reducible refine Ext.drew ?_) | (with_reducible refine Ext.drewN ?_ _) | (with_reducible refine Ext.setCell ?_ ?_ _) | (with_reducible refine Ext.trans ?_ (by assumption)))) <;> (first | (with_reducible assumption) | omega | (simp; done) | (simp; omega)))⟩
end Go.Proofs.Ytpopipacegkkbaa
