/- TilI AppB Ink NeedM: contracts of functions, and lemmas, for this seat. Conditions: as each states. -/
import Derived.Test.YtlifhoajamnehaaTd12
import Derived.Test.YtlifhoajamnehaaTd13
import Derived.Test.YtlifhoajamnehaaTd14
import Derived.Test.YtlifhoajamnehaaTd04
import Derived.Test.YtlifhoajamnehaaTd08
set_option linter.unusedVariables false
set_option linter.unusedSimpArgs false
set_option maxRecDepth 100000
set_option maxHeartbeats 4000000
namespace Go.Proofs.Ytlifhoajamnehaa
open Go Go.RowKit Instr
theorem e64 {a z : Nat} (ha : a < 68719476736) (hz : z < 68719476736) : bits .andNot .u64 (a : Int) (z : Int) = ((a &&& cmp z : Nat) : Int) := andn64s ha hz
/-- tilings tells all of them, in this order -/
theorem tilings_n (n : Nat) (hn : n < 68719476736) (h0 : n ≠ 0) (L : List Nat) (hG : ∀ (i k : Nat), L[i]? = some k → k < 36) (hlen : L.length ≤ 36)
    (f : FuncId) (caps : Array Value) (hcf : ∀ args w, (callFunc f args).run Try.prog w = .ok (.enter f args) w)
    (S : Nat → Prop) (C : Nat) (hS : ∀ k, S k → k < C) (K : List (List Nat) → World → Prop) (hK : ∀ acc w w', K acc w → Ext w w' → K acc w')
    (HW : ∀ acc D u w, acc.length < 1099511627776 → D.length ≤ 36 → C ≤ w.heap.size → K acc w → w.ownsRow C 3 1 u D.length (ints D) → Calls Try.prog f (#[u] ++ caps) w fun e w' => ∃ r, e = .returned r ∧ K (acc ++ [D]) w' ∧ Off S w w') :
    ∀ (N z : Nat), cnt z < N → z < 68719476736 → ∀ (D : List Nat) (acc : List (List Nat)) (v u : Value) (w : World), C ≤ w.heap.size → w.ownsRow C 3 1 v L.length (ints L) → w.ownsRow C 3 1 u D.length (ints D) → D.length + cnt z ≤ 36 → K acc w → acc.length + (tI (pr6 n) L N z D).length ≤ 1099511627776 →
    Calls Try.prog 124 #[.int .u64 (n : Int), v, .int .u64 (z : Int), u, .func (.func f) #[] caps] w fun e w' => ∃ r, e = .returned r ∧ K (acc ++ tI (pr6 n) L N z D) w' ∧ Off S w w'
  | 0, z, hN, _, _, _, _, _, _, _, _, _, _, _, _ => absurd hN (Nat.not_lt_zero _)
  | N + 1, z, hN, hz, D, acc, v, u, w, hC, hv, hu, hD, hk, hacc => by
    have IH := Lib.hid (tilings_n n hn h0 L hG hlen f caps hcf S C hS K hK HW N)
    have hf := pr6_lt n
    have hf0 := pr6_ne hn h0
    have HG := Lib.hid hG
    have HCB := Lib.hid HW
    have HKE := Lib.hid hK
    clear hG HW hK
    obtain ⟨ao, cap, rfl, hsh⟩ := own_shape hv
    have HV := Lib.hid hv
    obtain ⟨uo, uc, rfl, _⟩ := own_shape hu
    have HU := Lib.hid hu
    clear hv hu
    have HKK := Lib.hid hk
    clear hk
    by_cases hz0 : z = 0
    · subst hz0
      rw [tI_0] at hacc ⊢
      have HA := Lib.hid (HCB.out acc D _ w (by simp at hacc; omega) (by omega) hC HKK.out HU.out)
      go_enter Try.func124, Try.ntmps124
      go_wp2_with (refine HA.out.mono ?_; rintro e w1 ⟨r, rfl, hk1, hoff⟩)
      go_returns
      exact ⟨_, rfl, hk1, hoff⟩
    · obtain ⟨q, hq0, hq, hqz⟩ := fl_first0 hz hz0
      have hfq : fstB z = q := by unfold fstB; rw [hq0]; rfl
      have hzz : ((z : Int) = 0) ↔ False := iff_of_false (by omega) id
      have HL := Lib.hid (fun w => list_n z hz w)
      rw [tI_s (pr6 n) L N hz0] at hacc ⊢
      have HJA := Lib.hid (tJ_all (tG (pr6 n) L N z D) L)
      have HJL := Lib.hid (tJ_le (tG (pr6 n) L N z D) L)
      have HJ0 := Lib.hid (tJ_0 (tG (pr6 n) L N z D) L)
      have HJS := Lib.hid (fun (j k : Nat) (h : L[j]? = some k) => tJ_s (tG (pr6 n) L N z D) L h)
      have HCL := Lib.hid (fun B v w ho => clone_n D (by omega) B v w ho)
      go_enter Try.func124, Try.ntmps124
      go_wp2_with (go_at_call 150; refine (HL.out _).mono ?_; rintro e w1 ⟨u, rfl, hE, hu⟩; obtain ⟨lo, lc, rfl, ush⟩ := own_shape hu; obtain ⟨ub, rfl, _, ubl⟩ := ush (by have := (List.getElem?_eq_some_iff.1 hq0).1; omega); have u0 := (hu.cellAt 0 (by have := (List.getElem?_eq_some_iff.1 hq0).1; omega)).trans (ints_get _ 0 q hq0); have ulen := (List.getElem?_eq_some_iff.1 hq0).1; have hxb := hE; obtain ⟨wb, rfl⟩ : ∃ x, x = w1 := ⟨_, rfl⟩)
      have hxo : Off S w wb := hxb.off S
      have HV1 := Lib.hid (own_ext HV.out hxb)
      have HU1 := Lib.hid (own_ext HU.out hxb)
      have HK1 := Lib.hid (HKE.out _ _ _ HKK.out hxb)
      have hC1 : C ≤ wb.heap.size := Nat.le_trans hC hxb.size
      have hI64 := info_int
      obtain ⟨i0, hi, iz0, iz1, iz2⟩ := info_parts info_int
      clear u0 ulen hI64
      go_loopw [25] (fun i wr => ∃ j : Nat, j ≤ L.length ∧ i = .int .i64 j ∧ K (acc ++ tJ (tG (pr6 n) L N z D) L j) wr ∧ Off S wb wr) (fun i _ => L.length - (intOf i).toNat)
      case atStart => exact ⟨0, Nat.zero_le _, rfl, by rw [HJ0.out, List.append_nil]; exact HK1.out, Off.refl _ _⟩
      case round =>
        obtain ⟨j, hj, rfl, hkj, hx⟩ := hrel
        obtain ⟨wo, rfl⟩ : ∃ wo : World, wo = wr := ⟨_, rfl⟩
        have HKJ := Lib.hid hkj
        clear hkj
        have HV2 := Lib.hid (hx.own HV1.out hS (Nat.le_refl _))
        have HU2 := Lib.hid (hx.own HU1.out hS (Nat.le_refl _))
        have hC2 : C ≤ wo.heap.size := Nat.le_trans hC1 hx.size
        by_cases hlt : j < L.length
        · obtain ⟨b, rfl, _, hb⟩ := hsh (by omega)
          obtain ⟨k, hk⟩ : ∃ k, L[j]? = some k := ⟨L[j], List.getElem?_eq_getElem hlt⟩
          have hk36 := HG.out j k hk
          have c1 := (HV2.out.cellAt j (by omega)).trans (ints_get L j k hk)
          have HP := Lib.hid (show ∀ w, Calls Try.prog 97 #[.int .u64 (n : Int), .int .i64 (k : Int)] w fun e w' => e = .returned (.int .u64 (pr6 n k : Nat)) ∧ Ext w w' from fun w => pressed_any n k hn hk36 w)
          have HD := Lib.hid (HJS.out j k hk)
          have hjl := HJL.out (j + 1)
          rw [HD.out, List.length_append] at hjl
          have hpk := hf k
          have hpk0 := hf0 k
          have HH := Lib.hid (fun w => has_any (pr6 n k) q hpk hq w)
          have e2 := e64 hpk hz
          have e3 := e64 hz hpk
          rw [show z &&& cmp (pr6 n k) = mns z (pr6 n k) from rfl] at e3
          clear hk
          cases h1 : (pr6 n k).testBit q
          · rw [h1] at HH
            have HS1 := Lib.hid (show tJ (tG (pr6 n) L N z D) L (j + 1) = tJ (tG (pr6 n) L N z D) L j by rw [HD.out, tG_f (by rw [hfq, h1]; rfl), List.append_nil])
            clear h1
            go_wp2_with (first | (go_at_call 97; refine (HP.out _).mono ?_; rintro e w1 ⟨rfl, hE⟩) | (go_at_call 157; refine (HH.out _).mono ?_; rintro e w' ⟨rfl, rfl⟩))
            (refine ⟨?_, by simp [intOf]; omega⟩; repeat (first | exact ⟨j + 1, by omega, by go_num, by rw [HS1.out]; exact HKE.out _ _ _ HKJ.out hE, hx.trans (hE.off S)⟩ | exact ⟨⟨j + 1, by omega, by go_num, by rw [HS1.out]; exact HKE.out _ _ _ HKJ.out hE, hx.trans (hE.off S)⟩, rfl⟩ | apply Exists.intro))
          · rw [h1] at HH
            cases h2 : prt (pr6 n k) z
            · have hne : ((pr6 n k &&& cmp z : Nat) : Int) ≠ 0 := fun e => by
                unfold prt at h2
                rw [decide_eq_true (by omega)] at h2; cases h2
              have HS1 := Lib.hid (show tJ (tG (pr6 n) L N z D) L (j + 1) = tJ (tG (pr6 n) L N z D) L j by rw [HD.out, tG_f (by rw [h2, Bool.and_false]), List.append_nil])
              clear h1 h2
              generalize pr6 n k &&& cmp z = X at *
              go_wp2_with (first | (go_at_call 97; refine (HP.out _).mono ?_; rintro e w1 ⟨rfl, hE⟩) | (go_at_call 157; refine (HH.out _).mono ?_; rintro e w' ⟨rfl, rfl⟩))
              (refine ⟨?_, by simp [intOf]; omega⟩; repeat (first | exact ⟨j + 1, by omega, by go_num, by rw [HS1.out]; exact HKE.out _ _ _ HKJ.out hE, hx.trans (hE.off S)⟩ | exact ⟨⟨j + 1, by omega, by go_num, by rw [HS1.out]; exact HKE.out _ _ _ HKJ.out hE, hx.trans (hE.off S)⟩, rfl⟩ | apply Exists.intro))
            · have h00 : pr6 n k &&& cmp z = 0 := by unfold prt at h2; exact of_decide_eq_true h2
              rw [h00] at e2
              rw [tG_t (by rw [hfq]; exact h1) h2] at HD hjl
              have hcl := cnt_less0 hpk hpk0 h2
              have HR2 := Lib.hid (fun D' acc' v u w => IH.out (mns z (pr6 n k)) (by omega) (mns_lt _ hz) D' acc' v u w)
              have hml := mns_lt (pr6 n k) hz
              clear h1 h2 h00
              generalize mns z (pr6 n k) = z2 at *
              go_wp2_with (first | ((go_at_call 97; refine (HP.out _).mono ?_; rintro e w1 ⟨rfl, hE⟩); have HVp := Lib.hid (own_ext HV2.out hE); have HUp := Lib.hid (own_ext HU2.out hE); have HKp := Lib.hid (HKE.out _ _ _ HKJ.out hE); have hxp := hE; obtain ⟨wp, rfl⟩ : ∃ x, x = w1 := ⟨_, rfl⟩) | (go_at_call 157; refine (HH.out _).mono ?_; rintro e w' ⟨rfl, rfl⟩) | (go_at_call 158; refine (HCL.out _ _ _ HUp.out).mono ?_; rintro e w1 ⟨u2, rfl, hEc, hu2⟩; obtain ⟨u2o, u2c, rfl, _⟩ := own_shape hu2; have HUc := Lib.hid hu2; clear hu2; obtain ⟨wc, rfl⟩ : ∃ x, x = w1 := ⟨_, rfl⟩) | (at_builtin; refine wpList_append_own _ rfl _ _ 44 rfl wp.heap.size 3 i0 (.int .i64 0) 1 8 Try.underlying44 hi iz0 iz1 iz2 rfl (by decide) _ _ _ rfl (HUc.out.alloc _) ⟨_, 0, none⟩ 1 1 [.int .i64 (k : Int)] rfl rfl one_cell (by simp [Value.oneCell']) (by unfold maxLen; omega) (by omega) (by have := hEc.size; simp; omega) ?_; intro v1 w2 hown hgrow _; have HXc := Lib.hid (own_push hEc (Nat.le_refl _) HUc.out hgrow).1; have hCp : C ≤ wp.heap.size := Nat.le_trans hC2 hxp.size; have HUn := Lib.hid (show w2.ownsRow C 3 1 v1 (D ++ [k]).length (ints (D ++ [k])) by rw [List.length_append, ints_append]; exact own_mono hown hCp); have HVn := Lib.hid (own_ext HVp.out HXc.out); have HKn := Lib.hid (HKE.out _ _ _ HKp.out HXc.out); have hCn : C ≤ w2.heap.size := Nat.le_trans hCp HXc.out.size; clear hown hgrow) | (go_at_call 124; refine (HR2.out (D ++ [k]) _ _ _ _ hCn HVn.out HUn.out (by rw [List.length_append]; simp; omega) HKn.out (by rw [List.length_append]; omega)).mono ?_; rintro e w3 ⟨r, rfl, hk3, hoff3⟩))
              rw [List.append_assoc, ← HD.out] at hk3
              (refine ⟨?_, by simp [intOf]; omega⟩; repeat (first | exact ⟨j + 1, by omega, by go_num, hk3, (hx.trans (hxp.off S)).trans ((HXc.out.off S).trans hoff3)⟩ | exact ⟨⟨j + 1, by omega, by go_num, hk3, (hx.trans (hxp.off S)).trans ((HXc.out.off S).trans hoff3)⟩, rfl⟩ | apply Exists.intro))
        · obtain rfl : j = L.length := by omega
          rw [HJA.out] at HKJ
          go_wp2
          go_returns
          exact ⟨_, rfl, HKJ.out, hxo.trans hx⟩
end Go.Proofs.Ytlifhoajamnehaa
set_option linter.unusedVariables false
set_option linter.unusedSimpArgs false
set_option maxRecDepth 100000
set_option maxHeartbeats 1000000
namespace Go.Proofs.Ytlifhoajamnehaa
open Go Go.RowKit Instr
/-! append on a row of the call's own: where the new row lies -/
theorem run_append_at {P : Program} (w : World) (base : Nat) (t ty e : TypeId) (i : TypeInfo) (z : Value) (size bytes : Nat) (ht : P.underlying t = some (.slice e)) (hi : P.info? e = some i) (hz : i.zero = some z)
    (hsize : i.size = size) (hby : i.bytes = bytes) (hzs : z.cells.size = size) (hsz : 0 < size) (v : Value) (n : Nat) (xs : List Value) (hown : w.ownsRow base e size v n xs)
    (a : Addr) (m c : Nat) (news : List Value) (hl : news.length = m * size) (hnews : ∀ j u, news[j]? = some u → w.cell? (a.add j) = some u) (h1 : ∀ u ∈ news, u.oneCell' = true)
    (h63 : n + m ≤ maxLen) (hbytes : (n + m) * bytes ≤ 140737488355328) (hbase : base ≤ w.heap.size) (hm : 0 < m) :
    ∃ v' w', (Builtin.append_ #[t, t] ty #[v, .slice (some a) m c]).run P w = .ok v' w' ∧ w'.ownsRow base e size v' (n + m) (xs ++ news) ∧ w.grownBy w' v.ownBlock ∧ (v'.ownBlock = v.ownBlock ∨ v'.ownBlock = some w.heap.size) := by
  obtain ⟨v', w', hr, h2, h3, _⟩ := run_append_own (P := P) w base t ty e i z size bytes ht hi hz hsize hby hzs hsz v n xs hown a m c news hl hnews h1 h63 hbytes hbase
  refine ⟨v', w', hr, h2, h3, ?_⟩
  subst hsize
  subst hby
  have hmx : maxLen ≤ 9223372036854775807 := by decide
  have hc := fun g => hown.cells (g := g)
  obtain ⟨hlen, hrow⟩ := hown
  rcases hrow with ⟨rfl, rfl⟩ | ⟨g, cap, cur, rfl, hbg, hg, hnc, hcm, hcs, htk⟩
  · have hk := run_append_nil (P := P) w t ty e i z ht hi hz a m c news hl hnews hm (by omega) (by have := hbytes; simp only [Nat.zero_add] at this; omega)
    rw [hr] at hk
    injection hk with e1 _
    subst e1
    exact .inr rfl
  · by_cases hroom : n + m ≤ cap
    · have hk := run_append_room (P := P) w t ty e i ht hi g n cap cur hg a m c news hl hnews h1 hroom (by rw [hl, hcs, ← Nat.add_mul]; exact Nat.mul_le_mul_right _ hroom)
      rw [hr] at hk
      injection hk with e1 _
      subst e1
      exact .inl rfl
    · have hk := run_append_grow (P := P) w t ty e i z ht hi hz ⟨g, 0, none⟩ n cap xs hlen (hc g rfl) a m c news hl hnews (by omega) (by omega) (growslice_fits (by omega) hbytes)
      rw [hr] at hk
      injection hk with e1 _
      subst e1
      exact .inr rfl
theorem wpList_append_at {P : Program} {w : World} {ops : Array Oper} {rest : List Oper} {o : Oper} {a : Act} {Q : Exit → Act → World → Prop} (hgd : o.guard = none) (s x : Operand) (t : TypeId)
    (ho : o.op = .call { callee := .builtin .append, args := #[s, x], argTypes := #[t, t] })
    (base : Nat) (e : TypeId) (i : TypeInfo) (z : Value) (size bytes : Nat) (ht : P.underlying t = some (.slice e)) (hi : P.info? e = some i) (hz : i.zero = some z)
    (hsize : i.size = size) (hby : i.bytes = bytes) (hzs : z.cells.size = size) (hsz : 0 < size)
    (v : Value) (n : Nat) (xs : List Value) (hs : a.eval s = v) (hown : w.ownsRow base e size v n xs)
    (ad : Addr) (m c : Nat) (news : List Value) (hx : a.eval x = .slice (some ad) m c) (hl : news.length = m * size) (hnews : ∀ j u, news[j]? = some u → w.cell? (ad.add j) = some u) (h1 : ∀ u ∈ news, u.oneCell' = true)
    (h63 : n + m ≤ maxLen) (hbytes : (n + m) * bytes ≤ 140737488355328) (hbase : base ≤ w.heap.size) (hm : 0 < m)
    (h : ∀ v' w', w'.ownsRow base e size v' (n + m) (xs ++ news) → w.grownBy w' v.ownBlock → (v'.ownBlock = v.ownBlock ∨ v'.ownBlock = some w.heap.size) → wpList P ops Q rest (a.put o.dst v') w') : wpList P ops Q (o :: rest) a w :=
  wpList_plain hgd fun K hK => by
    obtain ⟨v', w', hr, h2, h3, h4⟩ := run_append_at (P := P) w base t o.type e i z size bytes ht hi hz hsize hby hzs hsz v n xs hown ad m c news hl hnews h1 h63 hbytes hbase hm
    unfold Oper.wp
    simp [execOp, ho, resolve, invoke, builtin, hs, hx, hr, Result.andThen]
    exact hK _ _ (h v' w' h2 h3 h4)
/-- another row of the call's own stays -/
theorem own_other {w w' : World} {B : Nat} {e : TypeId} {size : Nat} {v : Value} {n : Nat} {xs : List Value} {row : Option Nat} (h : w.ownsRow B e size v n xs) (hg : w.grownBy w' row) (hr : ∀ k, row = some k → v.ownBlock ≠ some k) : w'.ownsRow B e size v n xs :=
  h.kept hg (by
    cases row with
    | none => cases hv : v.ownBlock with
      | none => exact .inl rfl
      | some k => exact .inr (by simp)
    | some k => exact .inr (hr k rfl))
theorem grown_setCell (w : World) (p : Addr) (x : Value) : w.grownBy (w.setCell p x) (some p.block) :=
  ⟨rfl, rfl, rfl, by simp, fun k _ hne => heap_setCell_other w p k x (fun e => hne (by rw [e]))⟩
theorem own_six {w : World} {B : Nat} {e : TypeId} {size : Nat} {u : Value} {n : Nat} {xs : List Value} {b : Nat} (h : w.ownsRow B e size u n xs) (hne : u.ownBlock ≠ some b) (v : Nat → Int) :
    ((((((w.setCell ⟨b, 0, none⟩ (.int .i64 (v 0))).setCell ⟨b, 1, none⟩ (.int .i64 (v 1))).setCell ⟨b, 2, none⟩ (.int .i64 (v 2))).setCell ⟨b, 3, none⟩ (.int .i64 (v 3))).setCell ⟨b, 4, none⟩ (.int .i64 (v 4))).setCell ⟨b, 5, none⟩ (.int .i64 (v 5))).ownsRow B e size u n xs := by
  have key : ∀ (w : World) (o : Nat) (x : Value), w.ownsRow B e size u n xs → (w.setCell ⟨b, o, none⟩ x).ownsRow B e size u n xs := fun w o x h =>
    own_other h (grown_setCell w ⟨b, o, none⟩ x) (fun k hk => by
      obtain rfl : b = k := by simpa using hk
      exact hne)
  exact key _ _ _ (key _ _ _ (key _ _ _ (key _ _ _ (key _ _ _ (key _ _ _ h)))))

theorem two_cells_at {w : World} {v z : Value} {e : TypeId} {b : Nat} (hb : b = w.heap.size) (j : Nat) (u : Value) (h : [v, z][j]? = some u) : (w.alloc (.cells #[v, z] e)).cell? ((⟨b, 0, none⟩ : Addr).add j) = some u := by
  subst hb
  exact two_cells j u h
end Go.Proofs.Ytlifhoajamnehaa
set_option linter.unusedVariables false
set_option linter.unusedSimpArgs false
set_option maxRecDepth 100000
set_option maxHeartbeats 1000000
namespace Go.Proofs.Ytlifhoajamnehaa
open Go Go.RowKit Instr
theorem l6Ink_n (n : Nat) (L : List Nat) (hG : ∀ (i k : Nat), L[i]? = some k → k < 36) (hlen : L.length < 2000000) (B : Nat) (v : Value) (w : World) (ho : w.ownsRow B 33 2 v L.length (pxy L)) :
    Calls Try.prog 163 #[(.agg #[.int .i64 (rw n 0), .int .i64 (rw n 1), .int .i64 (rw n 2), .int .i64 (rw n 3), .int .i64 (rw n 4), .int .i64 (rw n 5)]), v] w fun e w' => e = .returned (.agg #[.int .i64 (rw (inkL n L) 0), .int .i64 (rw (inkL n L) 1), .int .i64 (rw (inkL n L) 2), .int .i64 (rw (inkL n L) 3), .int .i64 (rw (inkL n L) 4), .int .i64 (rw (inkL n L) 5)]) ∧ Ext w w' := by
  obtain ⟨ao, cap, rfl, hsh⟩ := own_shape ho
  have HO := Lib.hid ho
  have HG := Lib.hid hG
  clear ho hG
  go_enter Try.func163, Try.ntmps163
  go_wp2
  go_loopw [6] (fun i wr => ∃ j : Nat, j ≤ L.length ∧ i = .int .i64 j ∧ Ext w wr ∧ Arr wr w.heap.size (rw n) ∧ Arr wr (w.heap.size + 1) (fun _ => 0) ∧ Arr wr (w.heap.size + 2) (rw (inkL n (L.take j))) ∧ w.heap.size + 2 < wr.heap.size) (fun i _ => L.length - (intOf i).toNat)
  case atStart =>
    refine ⟨0, Nat.zero_le _, rfl, (by (repeat' (first | (with_reducible exact Ext.refl _) | (with_reducible assumption) | (with_reducible refine Ext.alloc ?_ _) | (with_reducible refine Ext.drew ?_) | (with_reducible refine Ext.drewN ?_ _) | (with_reducible refine Ext.setCell ?_ ?_ _) | (with_reducible refine Ext.trans ?_ (by assumption)))) <;> (first | (with_reducible assumption) | omega | (simp; done) | (simp; omega))), ?_, ?_, ?_, by simp⟩
    · exact ((Arr.new w (rw n) _ rfl).alloc _ (by simp)).alloc _ (by first | (simp; done) | (simp; omega))
    · exact (Arr.new0 _ _ (by simp)).alloc _ (by simp)
    · exact (Arr.new0 _ _ (by simp)).congr fun j _ => (show (0 : Int) = rw 0 j by rw [rw_nat]; unfold rowN; rw [Nat.zero_div]; rfl)
  case round =>
    obtain ⟨j, hj, rfl, hx, ha, hr, ht, hz⟩ := hrel
    obtain ⟨wo, rfl⟩ : ∃ wo : World, wo = wr := ⟨_, rfl⟩
    have HA := Lib.hid ha
    have HR := Lib.hid hr
    have HT := Lib.hid ht
    clear ha hr ht
    have hsz := hx.size
    have za : w.heap.size < wo.heap.size := by omega
    have zr : w.heap.size + 1 < wo.heap.size := by omega
    by_cases hlt : j < L.length
    · obtain ⟨vb, rfl, _, hvb⟩ := hsh (by omega)
      obtain ⟨k, hk⟩ : ∃ k, L[j]? = some k := ⟨L[j], List.getElem?_eq_getElem hlt⟩
      have hk36 := HG.out j k hk
      have p1 := ((own_ext HO.out hx).cellAt (j * 2) (by omega)).trans (pxy_get L j k hk).1
      have p2 := ((own_ext HO.out hx).cellAt (j * 2 + 1) (by omega)).trans (pxy_get L j k hk).2
      have zv : vb < wo.heap.size := by omega
      obtain ⟨⟨c0, c1, c2, c3, c4, c5⟩, _⟩ := HA.out.all
      obtain ⟨⟨t0, t1, t2, t3, t4, t5⟩, _⟩ := HT.out.all
      have H1 := Lib.hid (fun w => l2At_n n (k % 6) (k / 6) (by omega) (by omega) w)
      have H2 := Lib.hid (fun w => l2Or_n (inkL n (L.take j)) (sh n (k % 6) (k / 6)) w)
      have HS := Lib.hid (inkL_step n L j k hk)
      rw [← HS.out] at H2
      clear hk
      generalize k % 6 = kx at *
      generalize k / 6 = ky at *
      skip
      go_wp2
      refine wp_calm 8 0 (fun _ => (#[], 0)) (by kernel_rfl) (by kernel_rfl) ?_; simp only [List.take_succ_cons, List.take_zero, List.drop_succ_cons, List.drop_zero]; intro hgr; (refine walkQ_step (fun K hK => ?_); go_simp; (try (go_ints; try go_simp)); first | (refine hK _ ?_; clear hK K) | (apply Exists.intro; refine ⟨fun _ => ?_, hK _ ?_⟩; (first | (go_at_call 154; exact (H1.out _)) | (go_at_call 137; exact (H2.out _))); clear hK K) | (simp only [↓IntWalk.iteOmega]; (try go_simp); (try (go_ints; try go_simp)); first | (refine hK _ ?_; clear hK K) | (apply Exists.intro; refine ⟨fun _ => ?_, hK _ ?_⟩; (first | (go_at_call 154; exact (H1.out _)) | (go_at_call 137; exact (H2.out _))); clear hK K))); (refine walkQ_step (fun K hK => ?_); go_simp; (try (go_ints; try go_simp)); first | (refine hK _ ?_; clear hK K) | (apply Exists.intro; refine ⟨fun _ => ?_, hK _ ?_⟩; (first | (go_at_call 154; exact (H1.out _)) | (go_at_call 137; exact (H2.out _))); clear hK K) | (simp only [↓IntWalk.iteOmega]; (try go_simp); (try (go_ints; try go_simp)); first | (refine hK _ ?_; clear hK K) | (apply Exists.intro; refine ⟨fun _ => ?_, hK _ ?_⟩; (first | (go_at_call 154; exact (H1.out _)) | (go_at_call 137; exact (H2.out _))); clear hK K))); (refine walkQ_step (fun K hK => ?_); go_simp; (try (go_ints; try go_simp)); first | (refine hK _ ?_; clear hK K) | (apply Exists.intro; refine ⟨fun _ => ?_, hK _ ?_⟩; (first | (go_at_call 154; exact (H1.out _)) | (go_at_call 137; exact (H2.out _))); clear hK K) | (simp only [↓IntWalk.iteOmega]; (try go_simp); (try (go_ints; try go_simp)); first | (refine hK _ ?_; clear hK K) | (apply Exists.intro; refine ⟨fun _ => ?_, hK _ ?_⟩; (first | (go_at_call 154; exact (H1.out _)) | (go_at_call 137; exact (H2.out _))); clear hK K))); (refine walkQ_step (fun K hK => ?_); go_simp; (try (go_ints; try go_simp)); first | (refine hK _ ?_; clear hK K) | (apply Exists.intro; refine ⟨fun _ => ?_, hK _ ?_⟩; (first | (go_at_call 154; exact (H1.out _)) | (go_at_call 137; exact (H2.out _))); clear hK K) | (simp only [↓IntWalk.iteOmega]; (try go_simp); (try (go_ints; try go_simp)); first | (refine hK _ ?_; clear hK K) | (apply Exists.intro; refine ⟨fun _ => ?_, hK _ ?_⟩; (first | (go_at_call 154; exact (H1.out _)) | (go_at_call 137; exact (H2.out _))); clear hK K))); (refine walkQ_step (fun K hK => ?_); go_simp; (try (go_ints; try go_simp)); first | (refine hK _ ?_; clear hK K) | (apply Exists.intro; refine ⟨fun _ => ?_, hK _ ?_⟩; (first | (go_at_call 154; exact (H1.out _)) | (go_at_call 137; exact (H2.out _))); clear hK K) | (simp only [↓IntWalk.iteOmega]; (try go_simp); (try (go_ints; try go_simp)); first | (refine hK _ ?_; clear hK K) | (apply Exists.intro; refine ⟨fun _ => ?_, hK _ ?_⟩; (first | (go_at_call 154; exact (H1.out _)) | (go_at_call 137; exact (H2.out _))); clear hK K))); (refine walkQ_step (fun K hK => ?_); go_simp; (try (go_ints; try go_simp)); first | (refine hK _ ?_; clear hK K) | (apply Exists.intro; refine ⟨fun _ => ?_, hK _ ?_⟩; (first | (go_at_call 154; exact (H1.out _)) | (go_at_call 137; exact (H2.out _))); clear hK K) | (simp only [↓IntWalk.iteOmega]; (try go_simp); (try (go_ints; try go_simp)); first | (refine hK _ ?_; clear hK K) | (apply Exists.intro; refine ⟨fun _ => ?_, hK _ ?_⟩; (first | (go_at_call 154; exact (H1.out _)) | (go_at_call 137; exact (H2.out _))); clear hK K))); (refine walkQ_step (fun K hK => ?_); go_simp; (try (go_ints; try go_simp)); first | (refine hK _ ?_; clear hK K) | (apply Exists.intro; refine ⟨fun _ => ?_, hK _ ?_⟩; (first | (go_at_call 154; exact (H1.out _)) | (go_at_call 137; exact (H2.out _))); clear hK K) | (simp only [↓IntWalk.iteOmega]; (try go_simp); (try (go_ints; try go_simp)); first | (refine hK _ ?_; clear hK K) | (apply Exists.intro; refine ⟨fun _ => ?_, hK _ ?_⟩; (first | (go_at_call 154; exact (H1.out _)) | (go_at_call 137; exact (H2.out _))); clear hK K))); (refine walkQ_step (fun K hK => ?_); go_simp; (try (go_ints; try go_simp)); first | (refine hK _ ?_; clear hK K) | (apply Exists.intro; refine ⟨fun _ => ?_, hK _ ?_⟩; (first | (go_at_call 154; exact (H1.out _)) | (go_at_call 137; exact (H2.out _))); clear hK K) | (simp only [↓IntWalk.iteOmega]; (try go_simp); (try (go_ints; try go_simp)); first | (refine hK _ ?_; clear hK K) | (apply Exists.intro; refine ⟨fun _ => ?_, hK _ ?_⟩; (first | (go_at_call 154; exact (H1.out _)) | (go_at_call 137; exact (H2.out _))); clear hK K))); refine walkQ_nil ?_; clear hgr; refine walkF_nil ?_; intro w1 hE _; have hc2 := hE.cells; have hf2 := hE.frees; have hz2 := hE.size
      replace hE : Ext wo w1 := ((Ext.refl wo).drew).trans hE
      have hs := hE.size
      have HT1 := Lib.hid (HT.out.ext hE hz)
      obtain ⟨⟨u0, u1, u2, u3, u4, u5⟩, g0, g1, g2, g3, g4, g5⟩ := HT1.out.all
      go_wp2
      refine ⟨⟨j + 1, by omega, by go_num, (by (repeat' (first | (with_reducible exact Ext.refl _) | (with_reducible assumption) | (with_reducible refine Ext.alloc ?_ _) | (with_reducible refine Ext.drew ?_) | (with_reducible refine Ext.drewN ?_ _) | (with_reducible refine Ext.setCell ?_ ?_ _) | (with_reducible refine Ext.trans ?_ (by assumption)))) <;> (first | (with_reducible assumption) | omega | (simp; done) | (simp; omega))), ?_, ?_, HT1.out.six _, by simp; omega⟩, by simp [intOf]; omega⟩
      · exact ((((((HA.out.ext hE za).far (by dsimp only; omega) _).far (by dsimp only; omega) _).far (by dsimp only; omega) _).far (by dsimp only; omega) _).far (by dsimp only; omega) _).far (by dsimp only; omega) _
      · exact ((((((HR.out.ext hE zr).far (by dsimp only; omega) _).far (by dsimp only; omega) _).far (by dsimp only; omega) _).far (by dsimp only; omega) _).far (by dsimp only; omega) _).far (by dsimp only; omega) _
    · obtain rfl : j = L.length := by omega
      rw [inkL_all] at HT
      obtain ⟨⟨c0, c1, c2, c3, c4, c5⟩, _⟩ := HT.out.all
      obtain ⟨⟨d0, d1, d2, d3, d4, d5⟩, f0, f1, f2, f3, f4, f5⟩ := HR.out.all
      go_wp2
      exact bodyPost_ret (ret_cell rfl rfl (load_sheet (HR.out.six (rw (inkL n L))))) rfl ⟨rfl, (by (repeat' (first | (with_reducible exact Ext.refl _) | (with_reducible assumption) | (with_reducible refine Ext.alloc ?_ _) | (with_reducible refine Ext.drew ?_) | (with_reducible refine Ext.drewN ?_ _) | (with_reducible refine Ext.setCell ?_ ?_ _) | (with_reducible refine Ext.trans ?_ (by assumption)))) <;> (first | (with_reducible assumption) | omega | (simp; done) | (simp; omega)))⟩
end Go.Proofs.Ytlifhoajamnehaa
set_option linter.unusedVariables false
set_option linter.unusedSimpArgs false
set_option maxRecDepth 100000
set_option maxHeartbeats 1000000
namespace Go.Proofs.Ytlifhoajamnehaa
open Go Go.RowKit Instr
/-! append on a row of the region's own, inside a region that draws -/
theorem run_append_perm {P : Program} {W w : World} (base : Nat) (t ty e : TypeId) (i : TypeInfo) (z : Value) (size bytes : Nat) (ht : P.underlying t = some (.slice e)) (hi : P.info? e = some i) (hz : i.zero = some z)
    (hsize : i.size = size) (hby : i.bytes = bytes) (hzs : z.cells.size = size) (hsz : 0 < size) (v : Value) (n : Nat) (xs : List Value) (hown : w.ownsRow base e size v n xs) (hW : W.heap.size ≤ base) (hx : Ext W w)
    (a : Addr) (m c : Nat) (news : List Value) (hl : news.length = m * size) (hnews : ∀ j u, news[j]? = some u → w.cell? (a.add j) = some u) (h1 : ∀ u ∈ news, u.oneCell' = true)
    (h63 : n + m ≤ maxLen) (hbytes : (n + m) * bytes ≤ 140737488355328) (hbase : base ≤ w.heap.size) :
    ∃ v' w', (Builtin.append_ #[t, t] ty #[v, .slice (some a) m c]).run P w = .ok v' w' ∧ w'.ownsRow base e size v' (n + m) (xs ++ news) ∧ Ext W w' ∧ w.heap.size ≤ w'.heap.size := by
  obtain ⟨v', w', hr, h2, h3, _⟩ := run_append_own (P := P) w base t ty e i z size bytes ht hi hz hsize hby hzs hsz v n xs hown a m c news hl hnews h1 h63 hbytes hbase
  have hlt := hown.lt
  exact ⟨v', w', hr, h2, .of (hx.below.grown h3 hx.size (fun k hk => by have := (hlt k hk).1; omega)), h3.size⟩
section
variable {P : Program} {ops : Array Oper} {W : World}
/-- an append inside a region that draws: all that is known thereafter is the row (and what the region's start knew) -/
theorem walkP_append {o : Oper} {r : List (Oper × Bool)} {R : Post} {a : Act} {F : World → Prop} (hw : Region.wanted o (yielded ops a.tmps) = true) (s x : Operand) (t : TypeId)
    (ho : o.op = .call { callee := .builtin .append, args := #[s, x], argTypes := #[t, t] })
    (base : Nat) (e : TypeId) (i : TypeInfo) (z : Value) (size bytes : Nat) (ht : P.underlying t = some (.slice e)) (hi : P.info? e = some i) (hz : i.zero = some z)
    (hsize : i.size = size) (hby : i.bytes = bytes) (hzs : z.cells.size = size) (hsz : 0 < size) (hW : W.heap.size ≤ base)
    (v : Value) (n : Nat) (xs : List Value) (hs : a.eval s = v) (ad : Addr) (m c : Nat) (news : List Value) (hx : a.eval x = .slice (some ad) m c) (hl : news.length = m * size) (h1 : ∀ u ∈ news, u.oneCell' = true)
    (h63 : n + m ≤ maxLen) (hbytes : (n + m) * bytes ≤ 140737488355328)
    (hF : ∀ w, Ext W w → F w → w.ownsRow base e size v n xs ∧ base ≤ w.heap.size ∧ ∀ j u, news[j]? = some u → w.cell? (ad.add j) = some u)
    (h : ∀ x, walkP P ops W r R (a.put o.dst x) (fun w => w.ownsRow base e size x (n + m) (xs ++ news) ∧ base ≤ w.heap.size)) : walkP P ops W ((o, false) :: r) R a F := by
  simp only [walkP]
  exact ⟨hw, fun v => v, fun x w => w.ownsRow base e size x (n + m) (xs ++ news) ∧ base ≤ w.heap.size, fun _ => ⟨fun x _ _ hx h => ⟨own_ext h.1 hx, Nat.le_trans h.2 hx.size⟩, fun w hxw hFw => by
    obtain ⟨hown, hbase, hnews⟩ := hF w hxw hFw
    obtain ⟨v', w', hr, h2, h3, h4⟩ := run_append_perm (P := P) (W := W) (w := w) base t o.type e i z size bytes ht hi hz hsize hby hzs hsz v n xs hown hW hxw ad m c news hl hnews h1 h63 hbytes hbase
    simp [execOp, ho, resolve, invoke, builtin, hs, hx, hr, anyUpon, Result.andThen]
    exact ⟨h3, h2, Nat.le_trans hbase h4⟩⟩, h⟩
/-- walkP_call with an abstract goal, so that a simp set leaves it alone -/
theorem walkP_callR {o : Oper} {r : List (Oper × Bool)} {R : Post} {a : Act} {F : World → Prop} (f : Value → Value) (V : Value → World → Prop) (hV : ∀ x, Stable (V x)) (hw : Region.wanted o (yielded ops a.tmps) = true)
    (hc : ∀ w, Ext W w → F w → ∀ R : Value → World → Prop, (∀ x w', Ext w w' → V x w' → R (f x) w') → anyUpon P R ((execOp a.eval o).run P w))
    (h : ∀ x, walkP P ops W r R (a.put o.dst (f x)) (fun w => F w ∧ V x w)) : walkP P ops W ((o, false) :: r) R a F :=
  walkP_call f V hV hw (fun w hx hF => hc w hx hF _ (fun x w' h1 h2 => ⟨x, rfl, h1, h2⟩)) h
end
end Go.Proofs.Ytlifhoajamnehaa
