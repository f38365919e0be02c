/- Meet Shifts PerM CntM: contracts of functions, and lemmas, for this seat. Conditions: as each states. -/
import Derived.Test.YtlifhoajamnehaaPr11
import Derived.Test.YtlifhoajamnehaaPr03
import Derived.Test.YtlifhoajamnehaaPr05
import Derived.ChangeKeysEq
import Derived.Test.YtlifhoajamnehaaPr04
import Derived.Test.YtlifhoajamnehaaPr01
set_option linter.unusedVariables false
set_option linter.unusedSimpArgs false
set_option maxRecDepth 100000
set_option maxHeartbeats 1000000
namespace Go.Proofs.Ytlifhoajamnehaa
open Go Go.RowKit Instr
end Go.Proofs.Ytlifhoajamnehaa
set_option linter.unusedVariables false
set_option linter.unusedSimpArgs false
set_option maxRecDepth 100000
set_option maxHeartbeats 1000000
namespace Go.Proofs.Ytlifhoajamnehaa
open Go Go.RowKit Instr
/-- is a set, shifted by the vector with a number, another set? -/
def toP (a b k : Nat) : Bool := decide (sh a (k / 6) (k % 6) = b)
/-- pairs in a row -/
def pl (L : List Nat) : List Value := L.flatMap fun k : Nat => [Value.int .i64 ((k : Int) / 6), Value.int .i64 ((k : Int) % 6)]
theorem pl_append (L M : List Nat) : pl (L ++ M) = pl L ++ pl M := List.flatMap_append
theorem pl_one (k : Nat) : pl [k] = [Value.int .i64 ((k : Int) / 6), Value.int .i64 ((k : Int) % 6)] := by simp [pl]
theorem pl_length (L : List Nat) : (pl L).length = L.length * 2 := by
  induction L with
  | nil => rfl
  | cons x L ih =>
    show ([_, _] ++ pl L).length = _
    rw [List.length_append, ih, List.length_cons, List.length_cons, List.length_cons, List.length_nil]; omega
theorem pl_Gl (L : List Nat) : ∃ g, pl L = Gl (L.length * 2) g := by
  obtain ⟨g, hg⟩ := Gl_of (xs := pl L) (fun u hu => by
    obtain ⟨d, _, h⟩ := List.mem_flatMap.1 hu
    simp at h
    rcases h with rfl | rfl
    · exact ⟨_, rfl⟩
    · exact ⟨_, rfl⟩)
  exact ⟨g, by rw [pl_length] at hg; exact hg⟩
theorem l7To_n (a b : Nat) (ha : a < 68719476736) (hb : b < 68719476736) (w : World) : Calls Try.prog 76 #[(.agg #[.int .i64 (rw a 0), .int .i64 (rw a 1), .int .i64 (rw a 2), .int .i64 (rw a 3), .int .i64 (rw a 4), .int .i64 (rw a 5)]), (.agg #[.int .i64 (rw b 0), .int .i64 (rw b 1), .int .i64 (rw b 2), .int .i64 (rw b 3), .int .i64 (rw b 4), .int .i64 (rw b 5)])] w fun e w' => ∃ v, e = .returned v ∧ Ext w w' ∧ w'.ownsRow w.heap.size 33 2 v (fl (toP a b) 36).length (pl (fl (toP a b) 36)) := by
  obtain ⟨i0, hi, iz0, iz1, iz2⟩ := info_parts info_two
  skip
  go_enter Try.func76, Try.ntmps76
  go_wp2
  go_loopw [5, 6] (fun v i wr => ∃ x : Nat, x ≤ 6 ∧ i = .int .i64 x ∧ Ext w wr ∧ Arr wr w.heap.size (rw a) ∧ Arr wr (w.heap.size + 1) (rw b) ∧ w.heap.size + 2 < wr.heap.size ∧ wr.ownsRow (w.heap.size + 2) 33 2 v (fl (toP a b) (6 * x)).length (pl (fl (toP a b) (6 * x)))) (fun _ i _ => 6 - (intOf i).toNat)
  case atStart =>
    refine ⟨0, Nat.zero_le _, rfl, (by (repeat' (first | (with_reducible exact Ext.refl _) | (with_reducible assumption) | (with_reducible refine Ext.alloc ?_ _) | (with_reducible refine Ext.drew ?_) | (with_reducible refine Ext.drewN ?_ _) | (with_reducible refine Ext.setCell ?_ ?_ _) | (with_reducible refine Ext.trans ?_ (by assumption)))) <;> (first | (with_reducible assumption) | omega | (simp; done) | (simp; omega))), ?_, ?_, by simp, ?_⟩
    · exact ((Arr.new w (rw a) _ rfl).alloc _ (by simp)).alloc _ (by simp; omega)
    · exact (Arr.new _ (rw b) _ (by simp)).alloc _ (by simp)
    · exact own_empty _ 33 2 _ (by simp) (by simp)
  case round =>
    obtain ⟨x, hx6, rfl, hx, ha', hb', hz, ho⟩ := hrel
    have HA := Lib.hid ha'
    have HB := Lib.hid hb'
    have HO := Lib.hid ho
    clear ha' hb' ho
    by_cases hlt : x < 6
    · have hd : decide ((x : Int) < 6) = true := decide_eq_true (by omega)
      go_wp2
      go_loopw [5, 7] (fun v i wr => ∃ y : Nat, y ≤ 6 ∧ i = .int .i64 y ∧ Ext w wr ∧ Arr wr w.heap.size (rw a) ∧ Arr wr (w.heap.size + 1) (rw b) ∧ w.heap.size + 2 < wr.heap.size ∧ wr.ownsRow (w.heap.size + 2) 33 2 v (fl (toP a b) (6 * x + y)).length (pl (fl (toP a b) (6 * x + y)))) (fun _ i _ => 6 - (intOf i).toNat)
      case atStart => exact ⟨0, Nat.zero_le _, rfl, hx, HA.out, HB.out, hz, HO.out⟩
      case round =>
        clear HA HB HO hx hz
        obtain ⟨y, hy6, rfl, hx, ha', hb', hz, ho⟩ := hrel
        obtain ⟨wo, rfl⟩ : ∃ wo : World, wo = wr := ⟨_, rfl⟩
        have HA := Lib.hid ha'
        have HB := Lib.hid hb'
        have HO := Lib.hid ho
        clear ha' hb' ho
        by_cases hly : y < 6
        · obtain ⟨⟨c0, c1, c2, c3, c4, c5⟩, _⟩ := HA.out.all
          obtain ⟨⟨d0, d1, d2, d3, d4, d5⟩, _⟩ := HB.out.all
          have za : w.heap.size < wo.heap.size := by omega
          have zb : w.heap.size + 1 < wo.heap.size := by omega
          have hle := fl_le (toP a b) (6 * x + y)
          have HT := Lib.hid (fun w => l2Shift_n a (x : Int) (y : Int) w)
          rw [show m6 (x : Int) = x by unfold m6; omega, show m6 (y : Int) = y by unfold m6; omega] at HT
          have hk1 : (6 * x + y) / 6 = x := by omega
          have hk2 : (6 * x + y) % 6 = y := by omega
          have hv : decide (sh a x y = b) = toP a b (6 * x + y) := by unfold toP; rw [hk1, hk2]
          have hq1 : ((6 * x + y : Nat) : Int) / 6 = (x : Int) := by omega
          have hq2 : ((6 * x + y : Nat) : Int) % 6 = (y : Int) := by omega
          cases hp : toP a b (6 * x + y)
          · have en := eql_is (rw (sh a x y)) (rw b) false ((eqS_rw (sh_lt _ _ _) hb).trans (hv.trans hp))
            have e := fl_miss hp
            rw [← e] at HO
            clear hp e hv hk1 hk2 hq1 hq2
            go_wp2
            refine wp_calm0 (by kernel_rfl) (by kernel_rfl) ?_; intro hgr; (refine walkQ_step (fun K hK => ?_); go_simp; (try (go_ints; try go_simp)); first | (refine hK _ ?_; clear hK K) | (apply Exists.intro; refine ⟨fun _ => ?_, hK _ ?_⟩; ((go_at_call 81; exact (HT.out _))); clear hK K) | (simp only [↓IntWalk.iteOmega]; (try go_simp); (try (go_ints; try go_simp)); first | (refine hK _ ?_; clear hK K) | (apply Exists.intro; refine ⟨fun _ => ?_, hK _ ?_⟩; ((go_at_call 81; exact (HT.out _))); clear hK K))); (refine walkQ_step (fun K hK => ?_); go_simp; (try (go_ints; try go_simp)); first | (refine hK _ ?_; clear hK K) | (apply Exists.intro; refine ⟨fun _ => ?_, hK _ ?_⟩; ((go_at_call 81; exact (HT.out _))); clear hK K) | (simp only [↓IntWalk.iteOmega]; (try go_simp); (try (go_ints; try go_simp)); first | (refine hK _ ?_; clear hK K) | (apply Exists.intro; refine ⟨fun _ => ?_, hK _ ?_⟩; ((go_at_call 81; exact (HT.out _))); clear hK K))); (refine walkQ_step (fun K hK => ?_); go_simp; (try (go_ints; try go_simp)); first | (refine hK _ ?_; clear hK K) | (apply Exists.intro; refine ⟨fun _ => ?_, hK _ ?_⟩; ((go_at_call 81; exact (HT.out _))); clear hK K) | (simp only [↓IntWalk.iteOmega]; (try go_simp); (try (go_ints; try go_simp)); first | (refine hK _ ?_; clear hK K) | (apply Exists.intro; refine ⟨fun _ => ?_, hK _ ?_⟩; ((go_at_call 81; exact (HT.out _))); clear hK K))); (refine walkQ_step (fun K hK => ?_); go_simp; (try (go_ints; try go_simp)); first | (refine hK _ ?_; clear hK K) | (apply Exists.intro; refine ⟨fun _ => ?_, hK _ ?_⟩; ((go_at_call 81; exact (HT.out _))); clear hK K) | (simp only [↓IntWalk.iteOmega]; (try go_simp); (try (go_ints; try go_simp)); first | (refine hK _ ?_; clear hK K) | (apply Exists.intro; refine ⟨fun _ => ?_, hK _ ?_⟩; ((go_at_call 81; exact (HT.out _))); clear hK K))); (refine walkQ_step (fun K hK => ?_); go_simp; (try (go_ints; try go_simp)); first | (refine hK _ ?_; clear hK K) | (apply Exists.intro; refine ⟨fun _ => ?_, hK _ ?_⟩; ((go_at_call 81; exact (HT.out _))); clear hK K) | (simp only [↓IntWalk.iteOmega]; (try go_simp); (try (go_ints; try go_simp)); first | (refine hK _ ?_; clear hK K) | (apply Exists.intro; refine ⟨fun _ => ?_, hK _ ?_⟩; ((go_at_call 81; exact (HT.out _))); clear hK K))); (refine walkQ_step (fun K hK => ?_); go_simp; (try (go_ints; try go_simp)); first | (refine hK _ ?_; clear hK K) | (apply Exists.intro; refine ⟨fun _ => ?_, hK _ ?_⟩; ((go_at_call 81; exact (HT.out _))); clear hK K) | (simp only [↓IntWalk.iteOmega]; (try go_simp); (try (go_ints; try go_simp)); first | (refine hK _ ?_; clear hK K) | (apply Exists.intro; refine ⟨fun _ => ?_, hK _ ?_⟩; ((go_at_call 81; exact (HT.out _))); clear hK K))); refine walkQ_nil ?_; clear hgr; intro w1 hE; have hc2 := hE.cells; have hf2 := hE.frees; have hz2 := hE.size
            replace hE : Ext wo w1 := ((Ext.refl wo).drew).trans hE
            have hs := hE.size
            go_wp2
            (first | exact ⟨⟨y + 1, by omega, by go_num, (by (repeat' (first | (with_reducible exact Ext.refl _) | (with_reducible assumption) | (with_reducible refine Ext.alloc ?_ _) | (with_reducible refine Ext.drew ?_) | (with_reducible refine Ext.drewN ?_ _) | (with_reducible refine Ext.setCell ?_ ?_ _) | (with_reducible refine Ext.trans ?_ (by assumption)))) <;> (first | (with_reducible assumption) | omega | (simp; done) | (simp; omega))), HA.out.ext hE za, HB.out.ext hE zb, by omega, own_ext HO.out hE⟩, by simp [intOf]; omega⟩ | (refine ⟨?_, by simp [intOf]; omega⟩; (repeat apply Exists.intro); exact ⟨⟨y + 1, by omega, by go_num, (by (repeat' (first | (with_reducible exact Ext.refl _) | (with_reducible assumption) | (with_reducible refine Ext.alloc ?_ _) | (with_reducible refine Ext.drew ?_) | (with_reducible refine Ext.drewN ?_ _) | (with_reducible refine Ext.setCell ?_ ?_ _) | (with_reducible refine Ext.trans ?_ (by assumption)))) <;> (first | (with_reducible assumption) | omega | (simp; done) | (simp; omega))), HA.out.ext hE za, HB.out.ext hE zb, by omega, own_ext HO.out hE⟩, rfl⟩))
          · have en := eql_is (rw (sh a x y)) (rw b) true ((eqS_rw (sh_lt _ _ _) hb).trans (hv.trans hp))
            have e := Lib.hid (fl_hit hp)
            have Q1 := Lib.hid hq1
            have Q2 := Lib.hid hq2
            clear hp hv hk1 hk2 hq1 hq2
            go_wp2
            refine wp_calm0 (by kernel_rfl) (by kernel_rfl) ?_; intro hgr; (refine walkQ_step (fun K hK => ?_); go_simp; (try (go_ints; try go_simp)); first | (refine hK _ ?_; clear hK K) | (apply Exists.intro; refine ⟨fun _ => ?_, hK _ ?_⟩; ((go_at_call 81; exact (HT.out _))); clear hK K) | (simp only [↓IntWalk.iteOmega]; (try go_simp); (try (go_ints; try go_simp)); first | (refine hK _ ?_; clear hK K) | (apply Exists.intro; refine ⟨fun _ => ?_, hK _ ?_⟩; ((go_at_call 81; exact (HT.out _))); clear hK K))); (refine walkQ_step (fun K hK => ?_); go_simp; (try (go_ints; try go_simp)); first | (refine hK _ ?_; clear hK K) | (apply Exists.intro; refine ⟨fun _ => ?_, hK _ ?_⟩; ((go_at_call 81; exact (HT.out _))); clear hK K) | (simp only [↓IntWalk.iteOmega]; (try go_simp); (try (go_ints; try go_simp)); first | (refine hK _ ?_; clear hK K) | (apply Exists.intro; refine ⟨fun _ => ?_, hK _ ?_⟩; ((go_at_call 81; exact (HT.out _))); clear hK K))); (refine walkQ_step (fun K hK => ?_); go_simp; (try (go_ints; try go_simp)); first | (refine hK _ ?_; clear hK K) | (apply Exists.intro; refine ⟨fun _ => ?_, hK _ ?_⟩; ((go_at_call 81; exact (HT.out _))); clear hK K) | (simp only [↓IntWalk.iteOmega]; (try go_simp); (try (go_ints; try go_simp)); first | (refine hK _ ?_; clear hK K) | (apply Exists.intro; refine ⟨fun _ => ?_, hK _ ?_⟩; ((go_at_call 81; exact (HT.out _))); clear hK K))); (refine walkQ_step (fun K hK => ?_); go_simp; (try (go_ints; try go_simp)); first | (refine hK _ ?_; clear hK K) | (apply Exists.intro; refine ⟨fun _ => ?_, hK _ ?_⟩; ((go_at_call 81; exact (HT.out _))); clear hK K) | (simp only [↓IntWalk.iteOmega]; (try go_simp); (try (go_ints; try go_simp)); first | (refine hK _ ?_; clear hK K) | (apply Exists.intro; refine ⟨fun _ => ?_, hK _ ?_⟩; ((go_at_call 81; exact (HT.out _))); clear hK K))); (refine walkQ_step (fun K hK => ?_); go_simp; (try (go_ints; try go_simp)); first | (refine hK _ ?_; clear hK K) | (apply Exists.intro; refine ⟨fun _ => ?_, hK _ ?_⟩; ((go_at_call 81; exact (HT.out _))); clear hK K) | (simp only [↓IntWalk.iteOmega]; (try go_simp); (try (go_ints; try go_simp)); first | (refine hK _ ?_; clear hK K) | (apply Exists.intro; refine ⟨fun _ => ?_, hK _ ?_⟩; ((go_at_call 81; exact (HT.out _))); clear hK K))); (refine walkQ_step (fun K hK => ?_); go_simp; (try (go_ints; try go_simp)); first | (refine hK _ ?_; clear hK K) | (apply Exists.intro; refine ⟨fun _ => ?_, hK _ ?_⟩; ((go_at_call 81; exact (HT.out _))); clear hK K) | (simp only [↓IntWalk.iteOmega]; (try go_simp); (try (go_ints; try go_simp)); first | (refine hK _ ?_; clear hK K) | (apply Exists.intro; refine ⟨fun _ => ?_, hK _ ?_⟩; ((go_at_call 81; exact (HT.out _))); clear hK K))); refine walkQ_nil ?_; clear hgr; intro w1 hE; have hc2 := hE.cells; have hf2 := hE.frees; have hz2 := hE.size
            replace hE : Ext wo w1 := ((Ext.refl wo).drew).trans hE
            have hs := hE.size
            have HO1 := Lib.hid (own_ext HO.out hE)
            go_wp2_with (at_builtin; refine wpList_append_own _ rfl _ _ 28 rfl (w.heap.size + 2) 33 i0 (.agg #[.int .i64 0, .int .i64 0]) 2 16 Try.underlying28 hi iz0 iz1 iz2 rfl (by decide) _ _ _ rfl (HO1.out.alloc _) ⟨_, 0, none⟩ 1 1 [.int .i64 (x : Int), .int .i64 (y : Int)] rfl rfl two_cells (by simp [Value.oneCell']) (by unfold maxLen; omega) (by omega) (by simp; omega) ?_; intro v1 w2 hown hgrow _)
            have HP := Lib.hid (own_push (hx.trans hE) (by omega) HO1.out hgrow)
            have hs2 := hgrow.size
            (first | exact ⟨⟨y + 1, by omega, by go_num, HP.out.1, HP.out.2 _ _ (by omega) (by omega) (HA.out.ext hE za), HP.out.2 _ _ (by omega) (by omega) (HB.out.ext hE zb), by simp at hs2; omega, by rw [show 6 * x + (y + 1) = 6 * x + y + 1 from rfl, e.out, List.length_append, pl_append, pl_one, Q1.out, Q2.out]; exact hown⟩, by simp [intOf]; omega⟩ | (refine ⟨?_, by simp [intOf]; omega⟩; (repeat apply Exists.intro); exact ⟨⟨y + 1, by omega, by go_num, HP.out.1, HP.out.2 _ _ (by omega) (by omega) (HA.out.ext hE za), HP.out.2 _ _ (by omega) (by omega) (HB.out.ext hE zb), by simp at hs2; omega, by rw [show 6 * x + (y + 1) = 6 * x + y + 1 from rfl, e.out, List.length_append, pl_append, pl_one, Q1.out, Q2.out]; exact hown⟩, rfl⟩))
        · obtain rfl : y = 6 := by omega
          go_wp2
          (first | exact ⟨⟨x + 1, by omega, by go_num, hx, HA.out, HB.out, hz, by rw [show 6 * (x + 1) = 6 * x + 6 by omega]; exact HO.out⟩, by simp [intOf]; omega⟩ | (refine ⟨?_, by simp [intOf]; omega⟩; (repeat apply Exists.intro); exact ⟨⟨x + 1, by omega, by go_num, hx, HA.out, HB.out, hz, by rw [show 6 * (x + 1) = 6 * x + 6 by omega]; exact HO.out⟩, rfl⟩))
    · obtain rfl : x = 6 := by omega
      go_wp2
      go_returns
      exact ⟨_, rfl, (by (repeat' (first | (with_reducible exact Ext.refl _) | (with_reducible assumption) | (with_reducible refine Ext.alloc ?_ _) | (with_reducible refine Ext.drew ?_) | (with_reducible refine Ext.drewN ?_ _) | (with_reducible refine Ext.setCell ?_ ?_ _) | (with_reducible refine Ext.trans ?_ (by assumption)))) <;> (first | (with_reducible assumption) | omega | (simp; done) | (simp; omega))), own_mono HO.out (by omega)⟩
theorem vectors_any (f : FuncId) (caps : Array Value) (p : Nat → Bool) (w : World) (hcf : ∀ args w, (callFunc f args).run Try.prog w = .ok (.enter f args) w)
    (hg : ∀ k, k < 36 → ∀ w', Ext w w' → Calls Try.prog f (#[.int .i64 ((k : Int) / 6), .int .i64 ((k : Int) % 6)] ++ caps) w' fun e w'' => e = .returned (.bool (p k)) ∧ Ext w' w'') :
    Calls Try.prog 85 #[.func (.func f) #[] caps] w fun e w' => ∃ v, e = .returned v ∧ Ext w w' ∧ w'.ownsRow w.heap.size 33 2 v (fl p 36).length (pl (fl p 36)) := by
  obtain ⟨i0, hi, iz0, iz1, iz2⟩ := info_parts info_two
  have HG := Lib.hid hg
  clear hg
  go_enter Try.func85, Try.ntmps85
  go_wp2
  go_loopw [3, 6] (fun v i wr => ∃ k : Nat, k ≤ 36 ∧ i = .int .i64 k ∧ Ext w wr ∧ w.heap.size < wr.heap.size ∧ wr.ownsRow w.heap.size 33 2 v (fl p k).length (pl (fl p k))) (fun _ i _ => 36 - (intOf i).toNat)
  case atStart => exact ⟨0, Nat.zero_le _, rfl, (by (repeat' (first | (with_reducible exact Ext.refl _) | (with_reducible assumption) | (with_reducible refine Ext.alloc ?_ _) | (with_reducible refine Ext.drew ?_) | (with_reducible refine Ext.drewN ?_ _) | (with_reducible refine Ext.setCell ?_ ?_ _) | (with_reducible refine Ext.trans ?_ (by assumption)))) <;> (first | (with_reducible assumption) | omega | (simp; done) | (simp; omega))), by simp, own_empty _ 33 2 _ (by simp) (by simp)⟩
  case round =>
    obtain ⟨k, hk, rfl, hx, hz, ho⟩ := hrel
    obtain ⟨wo, rfl⟩ : ∃ wo : World, wo = wr := ⟨_, rfl⟩
    have HO := Lib.hid ho
    clear ho
    by_cases hlt : k < 36
    · have hc' := Lib.hid (HG.out k hlt wo hx)
      have hle := fl_le p k
      cases hp : p k
      · rw [hp] at hc'
        have e := fl_miss hp
        rw [← e] at HO
        clear hp e
        go_wp2_with (refine (Hid.out hc').mono ?_; rintro e w1 ⟨rfl, hE⟩)
        refine ⟨⟨k + 1, by omega, by go_num, hx.trans hE, by have := hE.size; omega, own_ext HO.out hE⟩, by simp [intOf]; omega⟩
      · rw [hp] at hc'
        have e := Lib.hid (fl_hit hp)
        clear hp
        go_wp2_with (first | (at_builtin; refine wpList_append_own _ rfl _ _ 28 rfl w.heap.size 33 i0 (.agg #[.int .i64 0, .int .i64 0]) 2 16 Try.underlying28 hi iz0 iz1 iz2 rfl (by decide) _ _ _ rfl (HO1.out.alloc _) ⟨_, 0, none⟩ 1 1 [.int .i64 ((k : Int) / 6), .int .i64 ((k : Int) % 6)] rfl rfl two_cells (by simp [Value.oneCell']) (by unfold maxLen; omega) (by omega) (by simp; omega) ?_; intro v1 w2 hown hgrow _) | (refine (Hid.out hc').mono ?_; rintro e w1 ⟨rfl, hE⟩; have hs := hE.size; have HO1 := Lib.hid (own_ext HO.out hE)))
        have HP := Lib.hid (own_push (hx.trans hE) (by omega) HO1.out hgrow)
        have hs2 := hgrow.size
        refine ⟨⟨k + 1, by omega, by go_num, HP.out.1, by simp at hs2; omega, ?_⟩, by simp [intOf]; omega⟩
        rw [e.out, List.length_append, pl_append, pl_one]
        exact hown
    · obtain rfl : k = 36 := by omega
      go_wp2
      go_returns
      exact ⟨_, rfl, (by (repeat' (first | (with_reducible exact Ext.refl _) | (with_reducible assumption) | (with_reducible refine Ext.alloc ?_ _) | (with_reducible refine Ext.drew ?_) | (with_reducible refine Ext.drewN ?_ _) | (with_reducible refine Ext.setCell ?_ ?_ _) | (with_reducible refine Ext.trans ?_ (by assumption)))) <;> (first | (with_reducible assumption) | omega | (simp; done) | (simp; omega))), HO.out⟩
theorem ShiftsTo1_any (a b k : Nat) (ha : a < 68719476736) (hk : k < 36) (p q : Nat) (w : World) (hp : p < w.heap.size) (hq : q < w.heap.size) (h1 : w.cell? ⟨p, 0, none⟩ = some (.int .u64 (a : Int))) (h2 : w.cell? ⟨q, 0, none⟩ = some (.int .u64 (b : Int))) :
    Calls Try.prog 86 #[.int .i64 ((k : Int) / 6), .int .i64 ((k : Int) % 6), .pointer (some ⟨p, 0, none⟩), .pointer (some ⟨q, 0, none⟩)] w fun e w' => e = .returned (.bool (toP a b k)) ∧ Ext w w' := by
  have HT := Lib.hid (fun w => shifted_any a ha ((k : Int) / 6) ((k : Int) % 6) w)
  rw [show m6 ((k : Int) / 6) = k / 6 by unfold m6; omega, show m6 ((k : Int) % 6) = k % 6 by unfold m6; omega] at HT
  unfold toP
  generalize sh a (k / 6) (k % 6) = z at *
  skip
  go_enter Try.func86, Try.ntmps86
  go_wp2
  refine wp_calm0 (by kernel_rfl) (by kernel_rfl) ?_; intro hgr; (refine walkQ_step (fun K hK => ?_); go_simp; (try (go_ints; try go_simp)); first | (refine hK _ ?_; clear hK K) | (apply Exists.intro; refine ⟨fun _ => ?_, hK _ ?_⟩; ((go_at_call 87; exact (HT.out _))); clear hK K) | (simp only [↓IntWalk.iteOmega]; (try go_simp); (try (go_ints; try go_simp)); first | (refine hK _ ?_; clear hK K) | (apply Exists.intro; refine ⟨fun _ => ?_, hK _ ?_⟩; ((go_at_call 87; exact (HT.out _))); clear hK K))); (refine walkQ_step (fun K hK => ?_); go_simp; (try (go_ints; try go_simp)); first | (refine hK _ ?_; clear hK K) | (apply Exists.intro; refine ⟨fun _ => ?_, hK _ ?_⟩; ((go_at_call 87; exact (HT.out _))); clear hK K) | (simp only [↓IntWalk.iteOmega]; (try go_simp); (try (go_ints; try go_simp)); first | (refine hK _ ?_; clear hK K) | (apply Exists.intro; refine ⟨fun _ => ?_, hK _ ?_⟩; ((go_at_call 87; exact (HT.out _))); clear hK K))); (refine walkQ_step (fun K hK => ?_); go_simp; (try (go_ints; try go_simp)); first | (refine hK _ ?_; clear hK K) | (apply Exists.intro; refine ⟨fun _ => ?_, hK _ ?_⟩; ((go_at_call 87; exact (HT.out _))); clear hK K) | (simp only [↓IntWalk.iteOmega]; (try go_simp); (try (go_ints; try go_simp)); first | (refine hK _ ?_; clear hK K) | (apply Exists.intro; refine ⟨fun _ => ?_, hK _ ?_⟩; ((go_at_call 87; exact (HT.out _))); clear hK K))); (refine walkQ_step (fun K hK => ?_); go_simp; (try (go_ints; try go_simp)); first | (refine hK _ ?_; clear hK K) | (apply Exists.intro; refine ⟨fun _ => ?_, hK _ ?_⟩; ((go_at_call 87; exact (HT.out _))); clear hK K) | (simp only [↓IntWalk.iteOmega]; (try go_simp); (try (go_ints; try go_simp)); first | (refine hK _ ?_; clear hK K) | (apply Exists.intro; refine ⟨fun _ => ?_, hK _ ?_⟩; ((go_at_call 87; exact (HT.out _))); clear hK K))); (refine walkQ_step (fun K hK => ?_); go_simp; (try (go_ints; try go_simp)); first | (refine hK _ ?_; clear hK K) | (apply Exists.intro; refine ⟨fun _ => ?_, hK _ ?_⟩; ((go_at_call 87; exact (HT.out _))); clear hK K) | (simp only [↓IntWalk.iteOmega]; (try go_simp); (try (go_ints; try go_simp)); first | (refine hK _ ?_; clear hK K) | (apply Exists.intro; refine ⟨fun _ => ?_, hK _ ?_⟩; ((go_at_call 87; exact (HT.out _))); clear hK K))); (refine walkQ_step (fun K hK => ?_); go_simp; (try (go_ints; try go_simp)); first | (refine hK _ ?_; clear hK K) | (apply Exists.intro; refine ⟨fun _ => ?_, hK _ ?_⟩; ((go_at_call 87; exact (HT.out _))); clear hK K) | (simp only [↓IntWalk.iteOmega]; (try go_simp); (try (go_ints; try go_simp)); first | (refine hK _ ?_; clear hK K) | (apply Exists.intro; refine ⟨fun _ => ?_, hK _ ?_⟩; ((go_at_call 87; exact (HT.out _))); clear hK K))); (refine walkQ_step (fun K hK => ?_); go_simp; (try (go_ints; try go_simp)); first | (refine hK _ ?_; clear hK K) | (apply Exists.intro; refine ⟨fun _ => ?_, hK _ ?_⟩; ((go_at_call 87; exact (HT.out _))); clear hK K) | (simp only [↓IntWalk.iteOmega]; (try go_simp); (try (go_ints; try go_simp)); first | (refine hK _ ?_; clear hK K) | (apply Exists.intro; refine ⟨fun _ => ?_, hK _ ?_⟩; ((go_at_call 87; exact (HT.out _))); clear hK K))); refine walkQ_nil ?_; clear hgr; intro w1 hE; have hc2 := hE.cells; have hf2 := hE.frees; have hz2 := hE.size
  replace hE : Ext w w1 := ((Ext.refl w).drew).trans hE
  go_wp2
  go_returns
  exact ⟨ret_bool (by rw [Bool.eq_iff_iff]; simp; omega), (by (repeat' (first | (with_reducible exact Ext.refl _) | (with_reducible assumption) | (with_reducible refine Ext.alloc ?_ _) | (with_reducible refine Ext.drew ?_) | (with_reducible refine Ext.drewN ?_ _) | (with_reducible refine Ext.setCell ?_ ?_ _) | (with_reducible refine Ext.trans ?_ (by assumption)))) <;> (first | (with_reducible assumption) | omega | (simp; done) | (simp; omega)))⟩
theorem vectors_to (a b : Nat) (ha : a < 68719476736) (p q : Nat) (w : World) (hp : p < w.heap.size) (hq : q < w.heap.size) (h1 : w.cell? ⟨p, 0, none⟩ = some (.int .u64 (a : Int))) (h2 : w.cell? ⟨q, 0, none⟩ = some (.int .u64 (b : Int))) :
    Calls Try.prog 85 #[.func (.func 86) #[] #[.pointer (some ⟨p, 0, none⟩), .pointer (some ⟨q, 0, none⟩)]] w fun e w' => ∃ v, e = .returned v ∧ Ext w w' ∧ w'.ownsRow w.heap.size 33 2 v (fl (toP a b) 36).length (pl (fl (toP a b) 36)) :=
  vectors_any _ _ (toP a b) w Try.call86 fun k hk w' hx => ShiftsTo1_any a b k ha hk p q w' (by have := hx.size; omega) (by have := hx.size; omega) ((hx.cells _ _ hp).trans h1) ((hx.cells _ _ hq).trans h2)
theorem ShiftsTo_bad (r s : Nat → Int) (h : (vs r && vs s) = false) (w : World) : Calls Try.prog 18 #[(.agg #[.int .i64 (r 0), .int .i64 (r 1), .int .i64 (r 2), .int .i64 (r 3), .int .i64 (r 4), .int .i64 (r 5)]), (.agg #[.int .i64 (s 0), .int .i64 (s 1), .int .i64 (s 2), .int .i64 (s 3), .int .i64 (s 4), .int .i64 (s 5)])] w fun e w' => ∃ v, e = .returned (.tuple #[v, .bool false]) ∧ Ext w w' ∧ w'.ownsRow w.heap.size 33 2 v 0 [] := by
  have HT := Lib.hid (fun w => twoSets_is r s _ _ rfl rfl w)
  rw [h] at HT
  generalize setN r = a at *
  generalize setN s = b at *
  clear h
  skip
  go_enter Try.func18, Try.ntmps18
  go_wp2_with (go_at_call 84; refine (HT.out _).mono ?_; rintro e w1 ⟨rfl, hE⟩; replace k0_0 : w1.cell? ⟨w.heap.size, 0, none⟩ = some (.int .i64 (r 0)) := (hE.cells _ _ (by first | exact l0 | (simp; done) | (simp; omega))).trans (by first | exact k0_0 | (go_simp; done)); replace k0_1 : w1.cell? ⟨w.heap.size, 1, none⟩ = some (.int .i64 (r 1)) := (hE.cells _ _ (by first | exact l0 | (simp; done) | (simp; omega))).trans (by first | exact k0_1 | (go_simp; done)); replace k0_2 : w1.cell? ⟨w.heap.size, 2, none⟩ = some (.int .i64 (r 2)) := (hE.cells _ _ (by first | exact l0 | (simp; done) | (simp; omega))).trans (by first | exact k0_2 | (go_simp; done)); replace k0_3 : w1.cell? ⟨w.heap.size, 3, none⟩ = some (.int .i64 (r 3)) := (hE.cells _ _ (by first | exact l0 | (simp; done) | (simp; omega))).trans (by first | exact k0_3 | (go_simp; done)); replace k0_4 : w1.cell? ⟨w.heap.size, 4, none⟩ = some (.int .i64 (r 4)) := (hE.cells _ _ (by first | exact l0 | (simp; done) | (simp; omega))).trans (by first | exact k0_4 | (go_simp; done)); replace k0_5 : w1.cell? ⟨w.heap.size, 5, none⟩ = some (.int .i64 (r 5)) := (hE.cells _ _ (by first | exact l0 | (simp; done) | (simp; omega))).trans (by first | exact k0_5 | (go_simp; done)); replace k1_0 : w1.cell? ⟨w.heap.size + 1, 0, none⟩ = some (.int .i64 (s 0)) := (hE.cells _ _ (by first | exact l1 | (simp; done) | (simp; omega))).trans (by first | exact k1_0 | (go_simp; done)); replace k1_1 : w1.cell? ⟨w.heap.size + 1, 1, none⟩ = some (.int .i64 (s 1)) := (hE.cells _ _ (by first | exact l1 | (simp; done) | (simp; omega))).trans (by first | exact k1_1 | (go_simp; done)); replace k1_2 : w1.cell? ⟨w.heap.size + 1, 2, none⟩ = some (.int .i64 (s 2)) := (hE.cells _ _ (by first | exact l1 | (simp; done) | (simp; omega))).trans (by first | exact k1_2 | (go_simp; done)); replace k1_3 : w1.cell? ⟨w.heap.size + 1, 3, none⟩ = some (.int .i64 (s 3)) := (hE.cells _ _ (by first | exact l1 | (simp; done) | (simp; omega))).trans (by first | exact k1_3 | (go_simp; done)); replace k1_4 : w1.cell? ⟨w.heap.size + 1, 4, none⟩ = some (.int .i64 (s 4)) := (hE.cells _ _ (by first | exact l1 | (simp; done) | (simp; omega))).trans (by first | exact k1_4 | (go_simp; done)); replace k1_5 : w1.cell? ⟨w.heap.size + 1, 5, none⟩ = some (.int .i64 (s 5)) := (hE.cells _ _ (by first | exact l1 | (simp; done) | (simp; omega))).trans (by first | exact k1_5 | (go_simp; done)); replace l0 : w.heap.size < w1.heap.size := Nat.lt_of_lt_of_le (by first | exact l0 | (simp; done) | (simp; omega)) hE.size; replace l1 : w.heap.size + 1 < w1.heap.size := Nat.lt_of_lt_of_le (by first | exact l1 | (simp; done) | (simp; omega)) hE.size)
  go_returns
  exact ⟨_, rfl, (by (repeat' (first | (with_reducible exact Ext.refl _) | (with_reducible assumption) | (with_reducible refine Ext.alloc ?_ _) | (with_reducible refine Ext.drew ?_) | (with_reducible refine Ext.drewN ?_ _) | (with_reducible refine Ext.setCell ?_ ?_ _) | (with_reducible refine Ext.trans ?_ (by assumption)))) <;> (first | (with_reducible assumption) | omega | (simp; done) | (simp; omega))), World.ownsRow_nil _ _ _ _⟩
theorem ShiftsTo_ok (a b : Nat) (ha : a < 68719476736) (hb : b < 68719476736) (w : World) : Calls Try.prog 18 #[(.agg #[.int .i64 (rw a 0), .int .i64 (rw a 1), .int .i64 (rw a 2), .int .i64 (rw a 3), .int .i64 (rw a 4), .int .i64 (rw a 5)]), (.agg #[.int .i64 (rw b 0), .int .i64 (rw b 1), .int .i64 (rw b 2), .int .i64 (rw b 3), .int .i64 (rw b 4), .int .i64 (rw b 5)])] w fun e w' => ∃ v, e = .returned (.tuple #[v, .bool true]) ∧ Ext w w' ∧ w'.ownsRow w.heap.size 33 2 v (fl (toP a b) 36).length (pl (fl (toP a b) 36)) := by
  skip
  go_enter Try.func18, Try.ntmps18
  go_wp2_with ((go_at_call 84; refine (twoSets_n a b ha hb _).mono ?_; rintro e w1 ⟨rfl, hE⟩; replace k0_0 : w1.cell? ⟨w.heap.size, 0, none⟩ = some (.int .i64 (rw a 0)) := (hE.cells _ _ (by first | exact l0 | (simp; done) | (simp; omega))).trans (by first | exact k0_0 | (go_simp; done)); replace k0_1 : w1.cell? ⟨w.heap.size, 1, none⟩ = some (.int .i64 (rw a 1)) := (hE.cells _ _ (by first | exact l0 | (simp; done) | (simp; omega))).trans (by first | exact k0_1 | (go_simp; done)); replace k0_2 : w1.cell? ⟨w.heap.size, 2, none⟩ = some (.int .i64 (rw a 2)) := (hE.cells _ _ (by first | exact l0 | (simp; done) | (simp; omega))).trans (by first | exact k0_2 | (go_simp; done)); replace k0_3 : w1.cell? ⟨w.heap.size, 3, none⟩ = some (.int .i64 (rw a 3)) := (hE.cells _ _ (by first | exact l0 | (simp; done) | (simp; omega))).trans (by first | exact k0_3 | (go_simp; done)); replace k0_4 : w1.cell? ⟨w.heap.size, 4, none⟩ = some (.int .i64 (rw a 4)) := (hE.cells _ _ (by first | exact l0 | (simp; done) | (simp; omega))).trans (by first | exact k0_4 | (go_simp; done)); replace k0_5 : w1.cell? ⟨w.heap.size, 5, none⟩ = some (.int .i64 (rw a 5)) := (hE.cells _ _ (by first | exact l0 | (simp; done) | (simp; omega))).trans (by first | exact k0_5 | (go_simp; done)); replace k1_0 : w1.cell? ⟨w.heap.size + 1, 0, none⟩ = some (.int .i64 (rw b 0)) := (hE.cells _ _ (by first | exact l1 | (simp; done) | (simp; omega))).trans (by first | exact k1_0 | (go_simp; done)); replace k1_1 : w1.cell? ⟨w.heap.size + 1, 1, none⟩ = some (.int .i64 (rw b 1)) := (hE.cells _ _ (by first | exact l1 | (simp; done) | (simp; omega))).trans (by first | exact k1_1 | (go_simp; done)); replace k1_2 : w1.cell? ⟨w.heap.size + 1, 2, none⟩ = some (.int .i64 (rw b 2)) := (hE.cells _ _ (by first | exact l1 | (simp; done) | (simp; omega))).trans (by first | exact k1_2 | (go_simp; done)); replace k1_3 : w1.cell? ⟨w.heap.size + 1, 3, none⟩ = some (.int .i64 (rw b 3)) := (hE.cells _ _ (by first | exact l1 | (simp; done) | (simp; omega))).trans (by first | exact k1_3 | (go_simp; done)); replace k1_4 : w1.cell? ⟨w.heap.size + 1, 4, none⟩ = some (.int .i64 (rw b 4)) := (hE.cells _ _ (by first | exact l1 | (simp; done) | (simp; omega))).trans (by first | exact k1_4 | (go_simp; done)); replace k1_5 : w1.cell? ⟨w.heap.size + 1, 5, none⟩ = some (.int .i64 (rw b 5)) := (hE.cells _ _ (by first | exact l1 | (simp; done) | (simp; omega))).trans (by first | exact k1_5 | (go_simp; done)); replace l0 : w.heap.size < w1.heap.size := Nat.lt_of_lt_of_le (by first | exact l0 | (simp; done) | (simp; omega)) hE.size; replace l1 : w.heap.size + 1 < w1.heap.size := Nat.lt_of_lt_of_le (by first | exact l1 | (simp; done) | (simp; omega)) hE.size); obtain ⟨wa, rfl⟩ : ∃ x, x = w1 := ⟨_, rfl⟩)
  go_wp2_with (go_at_call 85; refine (vectors_to a b ha wa.heap.size (wa.heap.size + 1) _ (by simp; omega) (by simp) (by go_simp) (by go_simp)).mono ?_; rintro e w1 ⟨v0, rfl, hE, ho⟩)
  go_returns
  exact ⟨_, rfl, (by (repeat' (first | (with_reducible exact Ext.refl _) | (with_reducible assumption) | (with_reducible refine Ext.alloc ?_ _) | (with_reducible refine Ext.drew ?_) | (with_reducible refine Ext.drewN ?_ _) | (with_reducible refine Ext.setCell ?_ ?_ _) | (with_reducible refine Ext.trans ?_ (by assumption)))) <;> (first | (with_reducible assumption) | omega | (simp; done) | (simp; omega))), own_mono ho (by simp; omega)⟩
theorem sShiftsTo_bad (r s : Nat → Int) (h : (vs r && vs s) = false) (w : World) : Calls Try.prog 19 #[(.agg #[.int .i64 (r 0), .int .i64 (r 1), .int .i64 (r 2), .int .i64 (r 3), .int .i64 (r 4), .int .i64 (r 5)]), (.agg #[.int .i64 (s 0), .int .i64 (s 1), .int .i64 (s 2), .int .i64 (s 3), .int .i64 (s 4), .int .i64 (s 5)])] w fun e w' => ∃ v, e = .returned (.tuple #[v, .bool false]) ∧ Ext w w' ∧ w'.ownsRow w.heap.size 33 2 v 0 [] := by
  cases h1 : vs r <;> cases h2 : vs s <;> rw [h1, h2] at h
  all_goals first
    | (exact absurd h (by decide))
    | skip
  all_goals
    clear h
    replace h1 := Lib.hid h1
    replace h2 := Lib.hid h2
    skip
    go_enter Try.func19, Try.ntmps19
    have tk0 := Lib.hid True.intro
    go_wp2_with (first | (clear tk0; ((go_at_call 75; refine (l2Sheet_is r _ h1.out _).mono ?_; rintro e w1 ⟨rfl, hE⟩; replace k0_0 : w1.cell? ⟨w.heap.size, 0, none⟩ = some (.int .i64 (r 0)) := (hE.cells _ _ (by first | exact l0 | (simp; done) | (simp; omega))).trans (by first | exact k0_0 | (go_simp; done)); replace k0_1 : w1.cell? ⟨w.heap.size, 1, none⟩ = some (.int .i64 (r 1)) := (hE.cells _ _ (by first | exact l0 | (simp; done) | (simp; omega))).trans (by first | exact k0_1 | (go_simp; done)); replace k0_2 : w1.cell? ⟨w.heap.size, 2, none⟩ = some (.int .i64 (r 2)) := (hE.cells _ _ (by first | exact l0 | (simp; done) | (simp; omega))).trans (by first | exact k0_2 | (go_simp; done)); replace k0_3 : w1.cell? ⟨w.heap.size, 3, none⟩ = some (.int .i64 (r 3)) := (hE.cells _ _ (by first | exact l0 | (simp; done) | (simp; omega))).trans (by first | exact k0_3 | (go_simp; done)); replace k0_4 : w1.cell? ⟨w.heap.size, 4, none⟩ = some (.int .i64 (r 4)) := (hE.cells _ _ (by first | exact l0 | (simp; done) | (simp; omega))).trans (by first | exact k0_4 | (go_simp; done)); replace k0_5 : w1.cell? ⟨w.heap.size, 5, none⟩ = some (.int .i64 (r 5)) := (hE.cells _ _ (by first | exact l0 | (simp; done) | (simp; omega))).trans (by first | exact k0_5 | (go_simp; done)); replace k1_0 : w1.cell? ⟨w.heap.size + 1, 0, none⟩ = some (.int .i64 (s 0)) := (hE.cells _ _ (by first | exact l1 | (simp; done) | (simp; omega))).trans (by first | exact k1_0 | (go_simp; done)); replace k1_1 : w1.cell? ⟨w.heap.size + 1, 1, none⟩ = some (.int .i64 (s 1)) := (hE.cells _ _ (by first | exact l1 | (simp; done) | (simp; omega))).trans (by first | exact k1_1 | (go_simp; done)); replace k1_2 : w1.cell? ⟨w.heap.size + 1, 2, none⟩ = some (.int .i64 (s 2)) := (hE.cells _ _ (by first | exact l1 | (simp; done) | (simp; omega))).trans (by first | exact k1_2 | (go_simp; done)); replace k1_3 : w1.cell? ⟨w.heap.size + 1, 3, none⟩ = some (.int .i64 (s 3)) := (hE.cells _ _ (by first | exact l1 | (simp; done) | (simp; omega))).trans (by first | exact k1_3 | (go_simp; done)); replace k1_4 : w1.cell? ⟨w.heap.size + 1, 4, none⟩ = some (.int .i64 (s 4)) := (hE.cells _ _ (by first | exact l1 | (simp; done) | (simp; omega))).trans (by first | exact k1_4 | (go_simp; done)); replace k1_5 : w1.cell? ⟨w.heap.size + 1, 5, none⟩ = some (.int .i64 (s 5)) := (hE.cells _ _ (by first | exact l1 | (simp; done) | (simp; omega))).trans (by first | exact k1_5 | (go_simp; done)); replace l0 : w.heap.size < w1.heap.size := Nat.lt_of_lt_of_le (by first | exact l0 | (simp; done) | (simp; omega)) hE.size; replace l1 : w.heap.size + 1 < w1.heap.size := Nat.lt_of_lt_of_le (by first | exact l1 | (simp; done) | (simp; omega)) hE.size); have hs := hE.size)) | ((go_at_call 75; refine (l2Sheet_is s _ h2.out _).mono ?_; rintro e w1 ⟨rfl, hE⟩; replace k0_0 : w1.cell? ⟨w.heap.size, 0, none⟩ = some (.int .i64 (r 0)) := (hE.cells _ _ (by first | exact l0 | (simp; done) | (simp; omega))).trans (by first | exact k0_0 | (go_simp; done)); replace k0_1 : w1.cell? ⟨w.heap.size, 1, none⟩ = some (.int .i64 (r 1)) := (hE.cells _ _ (by first | exact l0 | (simp; done) | (simp; omega))).trans (by first | exact k0_1 | (go_simp; done)); replace k0_2 : w1.cell? ⟨w.heap.size, 2, none⟩ = some (.int .i64 (r 2)) := (hE.cells _ _ (by first | exact l0 | (simp; done) | (simp; omega))).trans (by first | exact k0_2 | (go_simp; done)); replace k0_3 : w1.cell? ⟨w.heap.size, 3, none⟩ = some (.int .i64 (r 3)) := (hE.cells _ _ (by first | exact l0 | (simp; done) | (simp; omega))).trans (by first | exact k0_3 | (go_simp; done)); replace k0_4 : w1.cell? ⟨w.heap.size, 4, none⟩ = some (.int .i64 (r 4)) := (hE.cells _ _ (by first | exact l0 | (simp; done) | (simp; omega))).trans (by first | exact k0_4 | (go_simp; done)); replace k0_5 : w1.cell? ⟨w.heap.size, 5, none⟩ = some (.int .i64 (r 5)) := (hE.cells _ _ (by first | exact l0 | (simp; done) | (simp; omega))).trans (by first | exact k0_5 | (go_simp; done)); replace k1_0 : w1.cell? ⟨w.heap.size + 1, 0, none⟩ = some (.int .i64 (s 0)) := (hE.cells _ _ (by first | exact l1 | (simp; done) | (simp; omega))).trans (by first | exact k1_0 | (go_simp; done)); replace k1_1 : w1.cell? ⟨w.heap.size + 1, 1, none⟩ = some (.int .i64 (s 1)) := (hE.cells _ _ (by first | exact l1 | (simp; done) | (simp; omega))).trans (by first | exact k1_1 | (go_simp; done)); replace k1_2 : w1.cell? ⟨w.heap.size + 1, 2, none⟩ = some (.int .i64 (s 2)) := (hE.cells _ _ (by first | exact l1 | (simp; done) | (simp; omega))).trans (by first | exact k1_2 | (go_simp; done)); replace k1_3 : w1.cell? ⟨w.heap.size + 1, 3, none⟩ = some (.int .i64 (s 3)) := (hE.cells _ _ (by first | exact l1 | (simp; done) | (simp; omega))).trans (by first | exact k1_3 | (go_simp; done)); replace k1_4 : w1.cell? ⟨w.heap.size + 1, 4, none⟩ = some (.int .i64 (s 4)) := (hE.cells _ _ (by first | exact l1 | (simp; done) | (simp; omega))).trans (by first | exact k1_4 | (go_simp; done)); replace k1_5 : w1.cell? ⟨w.heap.size + 1, 5, none⟩ = some (.int .i64 (s 5)) := (hE.cells _ _ (by first | exact l1 | (simp; done) | (simp; omega))).trans (by first | exact k1_5 | (go_simp; done)); replace l0 : w.heap.size < w1.heap.size := Nat.lt_of_lt_of_le (by first | exact l0 | (simp; done) | (simp; omega)) hE.size; replace l1 : w.heap.size + 1 < w1.heap.size := Nat.lt_of_lt_of_le (by first | exact l1 | (simp; done) | (simp; omega)) hE.size); have hs := hE.size))
    go_returns
    exact ⟨_, rfl, (by (repeat' (first | (with_reducible exact Ext.refl _) | (with_reducible assumption) | (with_reducible refine Ext.alloc ?_ _) | (with_reducible refine Ext.drew ?_) | (with_reducible refine Ext.drewN ?_ _) | (with_reducible refine Ext.setCell ?_ ?_ _) | (with_reducible refine Ext.trans ?_ (by assumption)))) <;> (first | (with_reducible assumption) | omega | (simp; done) | (simp; omega))), own_empty _ 33 2 _ (by first | omega | (simp at *; omega)) rfl⟩
theorem sShiftsTo_ok (a b : Nat) (ha : a < 68719476736) (hb : b < 68719476736) (w : World) : Calls Try.prog 19 #[(.agg #[.int .i64 (rw a 0), .int .i64 (rw a 1), .int .i64 (rw a 2), .int .i64 (rw a 3), .int .i64 (rw a 4), .int .i64 (rw a 5)]), (.agg #[.int .i64 (rw b 0), .int .i64 (rw b 1), .int .i64 (rw b 2), .int .i64 (rw b 3), .int .i64 (rw b 4), .int .i64 (rw b 5)])] w fun e w' => ∃ v, e = .returned (.tuple #[v, .bool true]) ∧ Ext w w' ∧ w'.ownsRow w.heap.size 33 2 v (fl (toP a b) 36).length (pl (fl (toP a b) 36)) := by
  skip
  go_enter Try.func19, Try.ntmps19
  have tk0 := Lib.hid True.intro
  go_wp2_with (first | (clear tk0; (go_at_call 75; refine (l2Sheet_n a _).mono ?_; rintro e w1 ⟨rfl, hE⟩; replace k0_0 : w1.cell? ⟨w.heap.size, 0, none⟩ = some (.int .i64 (rw a 0)) := (hE.cells _ _ (by first | exact l0 | (simp; done) | (simp; omega))).trans (by first | exact k0_0 | (go_simp; done)); replace k0_1 : w1.cell? ⟨w.heap.size, 1, none⟩ = some (.int .i64 (rw a 1)) := (hE.cells _ _ (by first | exact l0 | (simp; done) | (simp; omega))).trans (by first | exact k0_1 | (go_simp; done)); replace k0_2 : w1.cell? ⟨w.heap.size, 2, none⟩ = some (.int .i64 (rw a 2)) := (hE.cells _ _ (by first | exact l0 | (simp; done) | (simp; omega))).trans (by first | exact k0_2 | (go_simp; done)); replace k0_3 : w1.cell? ⟨w.heap.size, 3, none⟩ = some (.int .i64 (rw a 3)) := (hE.cells _ _ (by first | exact l0 | (simp; done) | (simp; omega))).trans (by first | exact k0_3 | (go_simp; done)); replace k0_4 : w1.cell? ⟨w.heap.size, 4, none⟩ = some (.int .i64 (rw a 4)) := (hE.cells _ _ (by first | exact l0 | (simp; done) | (simp; omega))).trans (by first | exact k0_4 | (go_simp; done)); replace k0_5 : w1.cell? ⟨w.heap.size, 5, none⟩ = some (.int .i64 (rw a 5)) := (hE.cells _ _ (by first | exact l0 | (simp; done) | (simp; omega))).trans (by first | exact k0_5 | (go_simp; done)); replace k1_0 : w1.cell? ⟨w.heap.size + 1, 0, none⟩ = some (.int .i64 (rw b 0)) := (hE.cells _ _ (by first | exact l1 | (simp; done) | (simp; omega))).trans (by first | exact k1_0 | (go_simp; done)); replace k1_1 : w1.cell? ⟨w.heap.size + 1, 1, none⟩ = some (.int .i64 (rw b 1)) := (hE.cells _ _ (by first | exact l1 | (simp; done) | (simp; omega))).trans (by first | exact k1_1 | (go_simp; done)); replace k1_2 : w1.cell? ⟨w.heap.size + 1, 2, none⟩ = some (.int .i64 (rw b 2)) := (hE.cells _ _ (by first | exact l1 | (simp; done) | (simp; omega))).trans (by first | exact k1_2 | (go_simp; done)); replace k1_3 : w1.cell? ⟨w.heap.size + 1, 3, none⟩ = some (.int .i64 (rw b 3)) := (hE.cells _ _ (by first | exact l1 | (simp; done) | (simp; omega))).trans (by first | exact k1_3 | (go_simp; done)); replace k1_4 : w1.cell? ⟨w.heap.size + 1, 4, none⟩ = some (.int .i64 (rw b 4)) := (hE.cells _ _ (by first | exact l1 | (simp; done) | (simp; omega))).trans (by first | exact k1_4 | (go_simp; done)); replace k1_5 : w1.cell? ⟨w.heap.size + 1, 5, none⟩ = some (.int .i64 (rw b 5)) := (hE.cells _ _ (by first | exact l1 | (simp; done) | (simp; omega))).trans (by first | exact k1_5 | (go_simp; done)); replace l0 : w.heap.size < w1.heap.size := Nat.lt_of_lt_of_le (by first | exact l0 | (simp; done) | (simp; omega)) hE.size; replace l1 : w.heap.size + 1 < w1.heap.size := Nat.lt_of_lt_of_le (by first | exact l1 | (simp; done) | (simp; omega)) hE.size)) | ((go_at_call 75; refine (l2Sheet_n b _).mono ?_; rintro e w1 ⟨rfl, hE⟩; replace k0_0 : w1.cell? ⟨w.heap.size, 0, none⟩ = some (.int .i64 (rw a 0)) := (hE.cells _ _ (by first | exact l0 | (simp; done) | (simp; omega))).trans (by first | exact k0_0 | (go_simp; done)); replace k0_1 : w1.cell? ⟨w.heap.size, 1, none⟩ = some (.int .i64 (rw a 1)) := (hE.cells _ _ (by first | exact l0 | (simp; done) | (simp; omega))).trans (by first | exact k0_1 | (go_simp; done)); replace k0_2 : w1.cell? ⟨w.heap.size, 2, none⟩ = some (.int .i64 (rw a 2)) := (hE.cells _ _ (by first | exact l0 | (simp; done) | (simp; omega))).trans (by first | exact k0_2 | (go_simp; done)); replace k0_3 : w1.cell? ⟨w.heap.size, 3, none⟩ = some (.int .i64 (rw a 3)) := (hE.cells _ _ (by first | exact l0 | (simp; done) | (simp; omega))).trans (by first | exact k0_3 | (go_simp; done)); replace k0_4 : w1.cell? ⟨w.heap.size, 4, none⟩ = some (.int .i64 (rw a 4)) := (hE.cells _ _ (by first | exact l0 | (simp; done) | (simp; omega))).trans (by first | exact k0_4 | (go_simp; done)); replace k0_5 : w1.cell? ⟨w.heap.size, 5, none⟩ = some (.int .i64 (rw a 5)) := (hE.cells _ _ (by first | exact l0 | (simp; done) | (simp; omega))).trans (by first | exact k0_5 | (go_simp; done)); replace k1_0 : w1.cell? ⟨w.heap.size + 1, 0, none⟩ = some (.int .i64 (rw b 0)) := (hE.cells _ _ (by first | exact l1 | (simp; done) | (simp; omega))).trans (by first | exact k1_0 | (go_simp; done)); replace k1_1 : w1.cell? ⟨w.heap.size + 1, 1, none⟩ = some (.int .i64 (rw b 1)) := (hE.cells _ _ (by first | exact l1 | (simp; done) | (simp; omega))).trans (by first | exact k1_1 | (go_simp; done)); replace k1_2 : w1.cell? ⟨w.heap.size + 1, 2, none⟩ = some (.int .i64 (rw b 2)) := (hE.cells _ _ (by first | exact l1 | (simp; done) | (simp; omega))).trans (by first | exact k1_2 | (go_simp; done)); replace k1_3 : w1.cell? ⟨w.heap.size + 1, 3, none⟩ = some (.int .i64 (rw b 3)) := (hE.cells _ _ (by first | exact l1 | (simp; done) | (simp; omega))).trans (by first | exact k1_3 | (go_simp; done)); replace k1_4 : w1.cell? ⟨w.heap.size + 1, 4, none⟩ = some (.int .i64 (rw b 4)) := (hE.cells _ _ (by first | exact l1 | (simp; done) | (simp; omega))).trans (by first | exact k1_4 | (go_simp; done)); replace k1_5 : w1.cell? ⟨w.heap.size + 1, 5, none⟩ = some (.int .i64 (rw b 5)) := (hE.cells _ _ (by first | exact l1 | (simp; done) | (simp; omega))).trans (by first | exact k1_5 | (go_simp; done)); replace l0 : w.heap.size < w1.heap.size := Nat.lt_of_lt_of_le (by first | exact l0 | (simp; done) | (simp; omega)) hE.size; replace l1 : w.heap.size + 1 < w1.heap.size := Nat.lt_of_lt_of_le (by first | exact l1 | (simp; done) | (simp; omega)) hE.size); have hsz := l0) | ((go_at_call 76; refine (l7To_n a b ha hb _).mono ?_; rintro e w1 ⟨v0, rfl, hE, ho⟩; replace k0_0 : w1.cell? ⟨w.heap.size, 0, none⟩ = some (.int .i64 (rw a 0)) := (hE.cells _ _ (by first | exact l0 | (simp; done) | (simp; omega))).trans (by first | exact k0_0 | (go_simp; done)); replace k0_1 : w1.cell? ⟨w.heap.size, 1, none⟩ = some (.int .i64 (rw a 1)) := (hE.cells _ _ (by first | exact l0 | (simp; done) | (simp; omega))).trans (by first | exact k0_1 | (go_simp; done)); replace k0_2 : w1.cell? ⟨w.heap.size, 2, none⟩ = some (.int .i64 (rw a 2)) := (hE.cells _ _ (by first | exact l0 | (simp; done) | (simp; omega))).trans (by first | exact k0_2 | (go_simp; done)); replace k0_3 : w1.cell? ⟨w.heap.size, 3, none⟩ = some (.int .i64 (rw a 3)) := (hE.cells _ _ (by first | exact l0 | (simp; done) | (simp; omega))).trans (by first | exact k0_3 | (go_simp; done)); replace k0_4 : w1.cell? ⟨w.heap.size, 4, none⟩ = some (.int .i64 (rw a 4)) := (hE.cells _ _ (by first | exact l0 | (simp; done) | (simp; omega))).trans (by first | exact k0_4 | (go_simp; done)); replace k0_5 : w1.cell? ⟨w.heap.size, 5, none⟩ = some (.int .i64 (rw a 5)) := (hE.cells _ _ (by first | exact l0 | (simp; done) | (simp; omega))).trans (by first | exact k0_5 | (go_simp; done)); replace k1_0 : w1.cell? ⟨w.heap.size + 1, 0, none⟩ = some (.int .i64 (rw b 0)) := (hE.cells _ _ (by first | exact l1 | (simp; done) | (simp; omega))).trans (by first | exact k1_0 | (go_simp; done)); replace k1_1 : w1.cell? ⟨w.heap.size + 1, 1, none⟩ = some (.int .i64 (rw b 1)) := (hE.cells _ _ (by first | exact l1 | (simp; done) | (simp; omega))).trans (by first | exact k1_1 | (go_simp; done)); replace k1_2 : w1.cell? ⟨w.heap.size + 1, 2, none⟩ = some (.int .i64 (rw b 2)) := (hE.cells _ _ (by first | exact l1 | (simp; done) | (simp; omega))).trans (by first | exact k1_2 | (go_simp; done)); replace k1_3 : w1.cell? ⟨w.heap.size + 1, 3, none⟩ = some (.int .i64 (rw b 3)) := (hE.cells _ _ (by first | exact l1 | (simp; done) | (simp; omega))).trans (by first | exact k1_3 | (go_simp; done)); replace k1_4 : w1.cell? ⟨w.heap.size + 1, 4, none⟩ = some (.int .i64 (rw b 4)) := (hE.cells _ _ (by first | exact l1 | (simp; done) | (simp; omega))).trans (by first | exact k1_4 | (go_simp; done)); replace k1_5 : w1.cell? ⟨w.heap.size + 1, 5, none⟩ = some (.int .i64 (rw b 5)) := (hE.cells _ _ (by first | exact l1 | (simp; done) | (simp; omega))).trans (by first | exact k1_5 | (go_simp; done)); replace l0 : w.heap.size < w1.heap.size := Nat.lt_of_lt_of_le (by first | exact l0 | (simp; done) | (simp; omega)) hE.size; replace l1 : w.heap.size + 1 < w1.heap.size := Nat.lt_of_lt_of_le (by first | exact l1 | (simp; done) | (simp; omega)) hE.size; have HW := Lib.hid ho; clear ho)))
  go_returns
  exact ⟨_, rfl, (by (repeat' (first | (with_reducible exact Ext.refl _) | (with_reducible assumption) | (with_reducible refine Ext.alloc ?_ _) | (with_reducible refine Ext.drew ?_) | (with_reducible refine Ext.drewN ?_ _) | (with_reducible refine Ext.setCell ?_ ?_ _) | (with_reducible refine Ext.trans ?_ (by assumption)))) <;> (first | (with_reducible assumption) | omega | (simp; done) | (simp; omega))), own_mono HW.out (by omega)⟩
theorem sPeriodsOf_bad (r : Nat → Int) (h : vs r = false) (w : World) : Calls Try.prog 11 #[(.agg #[.int .i64 (r 0), .int .i64 (r 1), .int .i64 (r 2), .int .i64 (r 3), .int .i64 (r 4), .int .i64 (r 5)])] w fun e w' => ∃ v, e = .returned (.tuple #[v, .bool false]) ∧ Ext w w' ∧ w'.ownsRow w.heap.size 33 2 v 0 [] := by
  have H := Lib.hid h
  clear h
  skip
  go_enter Try.func11, Try.ntmps11
  go_wp2_with (go_at_call 75; refine (l2Sheet_is r _ H.out _).mono ?_; rintro e w1 ⟨rfl, hE⟩; replace k0_0 : w1.cell? ⟨w.heap.size, 0, none⟩ = some (.int .i64 (r 0)) := (hE.cells _ _ (by first | exact l0 | (simp; done) | (simp; omega))).trans (by first | exact k0_0 | (go_simp; done)); replace k0_1 : w1.cell? ⟨w.heap.size, 1, none⟩ = some (.int .i64 (r 1)) := (hE.cells _ _ (by first | exact l0 | (simp; done) | (simp; omega))).trans (by first | exact k0_1 | (go_simp; done)); replace k0_2 : w1.cell? ⟨w.heap.size, 2, none⟩ = some (.int .i64 (r 2)) := (hE.cells _ _ (by first | exact l0 | (simp; done) | (simp; omega))).trans (by first | exact k0_2 | (go_simp; done)); replace k0_3 : w1.cell? ⟨w.heap.size, 3, none⟩ = some (.int .i64 (r 3)) := (hE.cells _ _ (by first | exact l0 | (simp; done) | (simp; omega))).trans (by first | exact k0_3 | (go_simp; done)); replace k0_4 : w1.cell? ⟨w.heap.size, 4, none⟩ = some (.int .i64 (r 4)) := (hE.cells _ _ (by first | exact l0 | (simp; done) | (simp; omega))).trans (by first | exact k0_4 | (go_simp; done)); replace k0_5 : w1.cell? ⟨w.heap.size, 5, none⟩ = some (.int .i64 (r 5)) := (hE.cells _ _ (by first | exact l0 | (simp; done) | (simp; omega))).trans (by first | exact k0_5 | (go_simp; done)); replace l0 : w.heap.size < w1.heap.size := Nat.lt_of_lt_of_le (by first | exact l0 | (simp; done) | (simp; omega)) hE.size)
  go_returns
  exact ⟨_, rfl, (by (repeat' (first | (with_reducible exact Ext.refl _) | (with_reducible assumption) | (with_reducible refine Ext.alloc ?_ _) | (with_reducible refine Ext.drew ?_) | (with_reducible refine Ext.drewN ?_ _) | (with_reducible refine Ext.setCell ?_ ?_ _) | (with_reducible refine Ext.trans ?_ (by assumption)))) <;> (first | (with_reducible assumption) | omega | (simp; done) | (simp; omega))), own_empty _ 33 2 _ (by omega) rfl⟩
theorem sPeriodsOf_ok (n : Nat) (hn : n < 68719476736) (w : World) : Calls Try.prog 11 #[(.agg #[.int .i64 (rw n 0), .int .i64 (rw n 1), .int .i64 (rw n 2), .int .i64 (rw n 3), .int .i64 (rw n 4), .int .i64 (rw n 5)])] w fun e w' => ∃ v, e = .returned (.tuple #[v, .bool true]) ∧ Ext w w' ∧ w'.ownsRow w.heap.size 33 2 v (fl (toP n n) 36).length (pl (fl (toP n n) 36)) := by
  skip
  go_enter Try.func11, Try.ntmps11
  go_wp2_with (first | ((go_at_call 75; refine (l2Sheet_n n _).mono ?_; rintro e w1 ⟨rfl, hE⟩; replace k0_0 : w1.cell? ⟨w.heap.size, 0, none⟩ = some (.int .i64 (rw n 0)) := (hE.cells _ _ (by first | exact l0 | (simp; done) | (simp; omega))).trans (by first | exact k0_0 | (go_simp; done)); replace k0_1 : w1.cell? ⟨w.heap.size, 1, none⟩ = some (.int .i64 (rw n 1)) := (hE.cells _ _ (by first | exact l0 | (simp; done) | (simp; omega))).trans (by first | exact k0_1 | (go_simp; done)); replace k0_2 : w1.cell? ⟨w.heap.size, 2, none⟩ = some (.int .i64 (rw n 2)) := (hE.cells _ _ (by first | exact l0 | (simp; done) | (simp; omega))).trans (by first | exact k0_2 | (go_simp; done)); replace k0_3 : w1.cell? ⟨w.heap.size, 3, none⟩ = some (.int .i64 (rw n 3)) := (hE.cells _ _ (by first | exact l0 | (simp; done) | (simp; omega))).trans (by first | exact k0_3 | (go_simp; done)); replace k0_4 : w1.cell? ⟨w.heap.size, 4, none⟩ = some (.int .i64 (rw n 4)) := (hE.cells _ _ (by first | exact l0 | (simp; done) | (simp; omega))).trans (by first | exact k0_4 | (go_simp; done)); replace k0_5 : w1.cell? ⟨w.heap.size, 5, none⟩ = some (.int .i64 (rw n 5)) := (hE.cells _ _ (by first | exact l0 | (simp; done) | (simp; omega))).trans (by first | exact k0_5 | (go_simp; done)); replace l0 : w.heap.size < w1.heap.size := Nat.lt_of_lt_of_le (by first | exact l0 | (simp; done) | (simp; omega)) hE.size); have hsz := l0) | ((go_at_call 76; refine (l7To_n n n hn hn _).mono ?_; rintro e w1 ⟨v0, rfl, hE, ho⟩; replace k0_0 : w1.cell? ⟨w.heap.size, 0, none⟩ = some (.int .i64 (rw n 0)) := (hE.cells _ _ (by first | exact l0 | (simp; done) | (simp; omega))).trans (by first | exact k0_0 | (go_simp; done)); replace k0_1 : w1.cell? ⟨w.heap.size, 1, none⟩ = some (.int .i64 (rw n 1)) := (hE.cells _ _ (by first | exact l0 | (simp; done) | (simp; omega))).trans (by first | exact k0_1 | (go_simp; done)); replace k0_2 : w1.cell? ⟨w.heap.size, 2, none⟩ = some (.int .i64 (rw n 2)) := (hE.cells _ _ (by first | exact l0 | (simp; done) | (simp; omega))).trans (by first | exact k0_2 | (go_simp; done)); replace k0_3 : w1.cell? ⟨w.heap.size, 3, none⟩ = some (.int .i64 (rw n 3)) := (hE.cells _ _ (by first | exact l0 | (simp; done) | (simp; omega))).trans (by first | exact k0_3 | (go_simp; done)); replace k0_4 : w1.cell? ⟨w.heap.size, 4, none⟩ = some (.int .i64 (rw n 4)) := (hE.cells _ _ (by first | exact l0 | (simp; done) | (simp; omega))).trans (by first | exact k0_4 | (go_simp; done)); replace k0_5 : w1.cell? ⟨w.heap.size, 5, none⟩ = some (.int .i64 (rw n 5)) := (hE.cells _ _ (by first | exact l0 | (simp; done) | (simp; omega))).trans (by first | exact k0_5 | (go_simp; done)); replace l0 : w.heap.size < w1.heap.size := Nat.lt_of_lt_of_le (by first | exact l0 | (simp; done) | (simp; omega)) hE.size; have HW := Lib.hid ho; clear ho)))
  go_returns
  exact ⟨_, rfl, (by (repeat' (first | (with_reducible exact Ext.refl _) | (with_reducible assumption) | (with_reducible refine Ext.alloc ?_ _) | (with_reducible refine Ext.drew ?_) | (with_reducible refine Ext.drewN ?_ _) | (with_reducible refine Ext.setCell ?_ ?_ _) | (with_reducible refine Ext.trans ?_ (by assumption)))) <;> (first | (with_reducible assumption) | omega | (simp; done) | (simp; omega))), own_mono HW.out (by omega)⟩
theorem PeriodsOf_bad (r : Nat → Int) (h : vs r = false) (w : World) : Calls Try.prog 10 #[(.agg #[.int .i64 (r 0), .int .i64 (r 1), .int .i64 (r 2), .int .i64 (r 3), .int .i64 (r 4), .int .i64 (r 5)])] w fun e w' => ∃ v, e = .returned (.tuple #[v, .bool false]) ∧ Ext w w' ∧ w'.ownsRow w.heap.size 33 2 v 0 [] := by
  have HT := Lib.hid (fun w => ShiftsTo_bad r r (by rw [h]; rfl) w)
  clear h
  skip
  go_enter Try.func10, Try.ntmps10
  go_wp2_with (go_at_call 18; refine (HT.out _).mono ?_; rintro e w1 ⟨v0, rfl, hE, ho⟩; replace k0_0 : w1.cell? ⟨w.heap.size, 0, none⟩ = some (.int .i64 (r 0)) := (hE.cells _ _ (by first | exact l0 | (simp; done) | (simp; omega))).trans (by first | exact k0_0 | (go_simp; done)); replace k0_1 : w1.cell? ⟨w.heap.size, 1, none⟩ = some (.int .i64 (r 1)) := (hE.cells _ _ (by first | exact l0 | (simp; done) | (simp; omega))).trans (by first | exact k0_1 | (go_simp; done)); replace k0_2 : w1.cell? ⟨w.heap.size, 2, none⟩ = some (.int .i64 (r 2)) := (hE.cells _ _ (by first | exact l0 | (simp; done) | (simp; omega))).trans (by first | exact k0_2 | (go_simp; done)); replace k0_3 : w1.cell? ⟨w.heap.size, 3, none⟩ = some (.int .i64 (r 3)) := (hE.cells _ _ (by first | exact l0 | (simp; done) | (simp; omega))).trans (by first | exact k0_3 | (go_simp; done)); replace k0_4 : w1.cell? ⟨w.heap.size, 4, none⟩ = some (.int .i64 (r 4)) := (hE.cells _ _ (by first | exact l0 | (simp; done) | (simp; omega))).trans (by first | exact k0_4 | (go_simp; done)); replace k0_5 : w1.cell? ⟨w.heap.size, 5, none⟩ = some (.int .i64 (r 5)) := (hE.cells _ _ (by first | exact l0 | (simp; done) | (simp; omega))).trans (by first | exact k0_5 | (go_simp; done)); replace l0 : w.heap.size < w1.heap.size := Nat.lt_of_lt_of_le (by first | exact l0 | (simp; done) | (simp; omega)) hE.size; have HW := Lib.hid ho; clear ho)
  go_returns
  exact ⟨_, rfl, (by (repeat' (first | (with_reducible exact Ext.refl _) | (with_reducible assumption) | (with_reducible refine Ext.alloc ?_ _) | (with_reducible refine Ext.drew ?_) | (with_reducible refine Ext.drewN ?_ _) | (with_reducible refine Ext.setCell ?_ ?_ _) | (with_reducible refine Ext.trans ?_ (by assumption)))) <;> (first | (with_reducible assumption) | omega | (simp; done) | (simp; omega))), own_mono HW.out (by simp)⟩
theorem PeriodsOf_ok (n : Nat) (hn : n < 68719476736) (w : World) : Calls Try.prog 10 #[(.agg #[.int .i64 (rw n 0), .int .i64 (rw n 1), .int .i64 (rw n 2), .int .i64 (rw n 3), .int .i64 (rw n 4), .int .i64 (rw n 5)])] w fun e w' => ∃ v, e = .returned (.tuple #[v, .bool true]) ∧ Ext w w' ∧ w'.ownsRow w.heap.size 33 2 v (fl (toP n n) 36).length (pl (fl (toP n n) 36)) := by
  skip
  go_enter Try.func10, Try.ntmps10
  go_wp2_with (go_at_call 18; refine (ShiftsTo_ok n n hn hn _).mono ?_; rintro e w1 ⟨v0, rfl, hE, ho⟩; replace k0_0 : w1.cell? ⟨w.heap.size, 0, none⟩ = some (.int .i64 (rw n 0)) := (hE.cells _ _ (by first | exact l0 | (simp; done) | (simp; omega))).trans (by first | exact k0_0 | (go_simp; done)); replace k0_1 : w1.cell? ⟨w.heap.size, 1, none⟩ = some (.int .i64 (rw n 1)) := (hE.cells _ _ (by first | exact l0 | (simp; done) | (simp; omega))).trans (by first | exact k0_1 | (go_simp; done)); replace k0_2 : w1.cell? ⟨w.heap.size, 2, none⟩ = some (.int .i64 (rw n 2)) := (hE.cells _ _ (by first | exact l0 | (simp; done) | (simp; omega))).trans (by first | exact k0_2 | (go_simp; done)); replace k0_3 : w1.cell? ⟨w.heap.size, 3, none⟩ = some (.int .i64 (rw n 3)) := (hE.cells _ _ (by first | exact l0 | (simp; done) | (simp; omega))).trans (by first | exact k0_3 | (go_simp; done)); replace k0_4 : w1.cell? ⟨w.heap.size, 4, none⟩ = some (.int .i64 (rw n 4)) := (hE.cells _ _ (by first | exact l0 | (simp; done) | (simp; omega))).trans (by first | exact k0_4 | (go_simp; done)); replace k0_5 : w1.cell? ⟨w.heap.size, 5, none⟩ = some (.int .i64 (rw n 5)) := (hE.cells _ _ (by first | exact l0 | (simp; done) | (simp; omega))).trans (by first | exact k0_5 | (go_simp; done)); replace l0 : w.heap.size < w1.heap.size := Nat.lt_of_lt_of_le (by first | exact l0 | (simp; done) | (simp; omega)) hE.size; have HW := Lib.hid ho; clear ho)
  go_returns
  exact ⟨_, rfl, (by (repeat' (first | (with_reducible exact Ext.refl _) | (with_reducible assumption) | (with_reducible refine Ext.alloc ?_ _) | (with_reducible refine Ext.drew ?_) | (with_reducible refine Ext.drewN ?_ _) | (with_reducible refine Ext.setCell ?_ ?_ _) | (with_reducible refine Ext.trans ?_ (by assumption)))) <;> (first | (with_reducible assumption) | omega | (simp; done) | (simp; omega))), own_mono HW.out (by simp)⟩
/-- how many periods a set has -/
def pers (n : Nat) : Nat := (fl (toP n n) 36).length
theorem pers_bd {n : Nat} (hn : n < 68719476736) : 0 < pers n ∧ pers n ≤ 36 := by
  refine ⟨?_, fl_le _ _⟩
  unfold pers
  have h0 : toP n n 0 = true := decide_eq_true (ext36 (sh_lt _ _ _) hn fun k hk => by
    rw [testBit_sh _ _ _ _ hk]
    congr 1
    unfold src
    omega)
  have : 0 ∈ fl (toP n n) 36 := List.mem_filter.2 ⟨by simp, h0⟩
  exact List.length_pos_of_mem this
theorem div36 {L : Nat} : 0 ≤ (36 : Int) / (L : Int) ∧ (36 : Int) / (L : Int) ≤ 36 := by
  have := Nat.div_le_self 36 L
  rw [show (36 : Int) / (L : Int) = ((36 / L : Nat) : Int) from rfl]
  generalize 36 / L = c at *
  omega
theorem sCountShifts_bad (r : Nat → Int) (h : vs r = false) (w : World) : Calls Try.prog 13 #[(.agg #[.int .i64 (r 0), .int .i64 (r 1), .int .i64 (r 2), .int .i64 (r 3), .int .i64 (r 4), .int .i64 (r 5)])] w fun e w' => e = .returned (.tuple #[.int .i64 0, .bool false]) ∧ Ext w w' := by
  have H := Lib.hid h
  clear h
  skip
  go_enter Try.func13, Try.ntmps13
  go_wp2_with (go_at_call 75; refine (l2Sheet_is r _ H.out _).mono ?_; rintro e w1 ⟨rfl, hE⟩; replace k0_0 : w1.cell? ⟨w.heap.size, 0, none⟩ = some (.int .i64 (r 0)) := (hE.cells _ _ (by first | exact l0 | (simp; done) | (simp; omega))).trans (by first | exact k0_0 | (go_simp; done)); replace k0_1 : w1.cell? ⟨w.heap.size, 1, none⟩ = some (.int .i64 (r 1)) := (hE.cells _ _ (by first | exact l0 | (simp; done) | (simp; omega))).trans (by first | exact k0_1 | (go_simp; done)); replace k0_2 : w1.cell? ⟨w.heap.size, 2, none⟩ = some (.int .i64 (r 2)) := (hE.cells _ _ (by first | exact l0 | (simp; done) | (simp; omega))).trans (by first | exact k0_2 | (go_simp; done)); replace k0_3 : w1.cell? ⟨w.heap.size, 3, none⟩ = some (.int .i64 (r 3)) := (hE.cells _ _ (by first | exact l0 | (simp; done) | (simp; omega))).trans (by first | exact k0_3 | (go_simp; done)); replace k0_4 : w1.cell? ⟨w.heap.size, 4, none⟩ = some (.int .i64 (r 4)) := (hE.cells _ _ (by first | exact l0 | (simp; done) | (simp; omega))).trans (by first | exact k0_4 | (go_simp; done)); replace k0_5 : w1.cell? ⟨w.heap.size, 5, none⟩ = some (.int .i64 (r 5)) := (hE.cells _ _ (by first | exact l0 | (simp; done) | (simp; omega))).trans (by first | exact k0_5 | (go_simp; done)); replace l0 : w.heap.size < w1.heap.size := Nat.lt_of_lt_of_le (by first | exact l0 | (simp; done) | (simp; omega)) hE.size)
  go_returns
  exact ⟨rfl, (by (repeat' (first | (with_reducible exact Ext.refl _) | (with_reducible assumption) | (with_reducible refine Ext.alloc ?_ _) | (with_reducible refine Ext.drew ?_) | (with_reducible refine Ext.drewN ?_ _) | (with_reducible refine Ext.setCell ?_ ?_ _) | (with_reducible refine Ext.trans ?_ (by assumption)))) <;> (first | (with_reducible assumption) | omega | (simp; done) | (simp; omega)))⟩
theorem sCountShifts_ok (n : Nat) (hn : n < 68719476736) (w : World) : Calls Try.prog 13 #[(.agg #[.int .i64 (rw n 0), .int .i64 (rw n 1), .int .i64 (rw n 2), .int .i64 (rw n 3), .int .i64 (rw n 4), .int .i64 (rw n 5)])] w fun e w' => e = .returned (.tuple #[.int .i64 ((36 : Int) / ((pers n : Nat) : Int)), .bool true]) ∧ Ext w w' := by
  have HC := Lib.hid (fun w => l7To_n n n hn hn w)
  obtain ⟨p0, p1⟩ := pers_bd hn
  rw [show (fl (toP n n) 36).length = pers n from rfl] at HC
  obtain ⟨L, hL⟩ : ∃ L, L = pers n := ⟨_, rfl⟩
  rw [← hL] at HC p0 p1 ⊢
  clear hL
  obtain ⟨q1, q2⟩ := div36 (L := L)
  skip
  go_enter Try.func13, Try.ntmps13
  go_wp2_with (first | (go_at_call 75; refine (l2Sheet_n n _).mono ?_; rintro e w1 ⟨rfl, hE⟩; replace k0_0 : w1.cell? ⟨w.heap.size, 0, none⟩ = some (.int .i64 (rw n 0)) := (hE.cells _ _ (by first | exact l0 | (simp; done) | (simp; omega))).trans (by first | exact k0_0 | (go_simp; done)); replace k0_1 : w1.cell? ⟨w.heap.size, 1, none⟩ = some (.int .i64 (rw n 1)) := (hE.cells _ _ (by first | exact l0 | (simp; done) | (simp; omega))).trans (by first | exact k0_1 | (go_simp; done)); replace k0_2 : w1.cell? ⟨w.heap.size, 2, none⟩ = some (.int .i64 (rw n 2)) := (hE.cells _ _ (by first | exact l0 | (simp; done) | (simp; omega))).trans (by first | exact k0_2 | (go_simp; done)); replace k0_3 : w1.cell? ⟨w.heap.size, 3, none⟩ = some (.int .i64 (rw n 3)) := (hE.cells _ _ (by first | exact l0 | (simp; done) | (simp; omega))).trans (by first | exact k0_3 | (go_simp; done)); replace k0_4 : w1.cell? ⟨w.heap.size, 4, none⟩ = some (.int .i64 (rw n 4)) := (hE.cells _ _ (by first | exact l0 | (simp; done) | (simp; omega))).trans (by first | exact k0_4 | (go_simp; done)); replace k0_5 : w1.cell? ⟨w.heap.size, 5, none⟩ = some (.int .i64 (rw n 5)) := (hE.cells _ _ (by first | exact l0 | (simp; done) | (simp; omega))).trans (by first | exact k0_5 | (go_simp; done)); replace l0 : w.heap.size < w1.heap.size := Nat.lt_of_lt_of_le (by first | exact l0 | (simp; done) | (simp; omega)) hE.size) | (go_at_call 76; refine (HC.out _).mono ?_; rintro e w1 ⟨v, rfl, hE, ho⟩; obtain ⟨ao, cap, rfl, _⟩ := own_shape ho; clear ho))
  go_returns
  exact ⟨rfl, (by (repeat' (first | (with_reducible exact Ext.refl _) | (with_reducible assumption) | (with_reducible refine Ext.alloc ?_ _) | (with_reducible refine Ext.drew ?_) | (with_reducible refine Ext.drewN ?_ _) | (with_reducible refine Ext.setCell ?_ ?_ _) | (with_reducible refine Ext.trans ?_ (by assumption)))) <;> (first | (with_reducible assumption) | omega | (simp; done) | (simp; omega)))⟩
theorem CountShifts_bad (r : Nat → Int) (h : vs r = false) (w : World) : Calls Try.prog 12 #[(.agg #[.int .i64 (r 0), .int .i64 (r 1), .int .i64 (r 2), .int .i64 (r 3), .int .i64 (r 4), .int .i64 (r 5)])] w fun e w' => e = .returned (.tuple #[.int .i64 0, .bool false]) ∧ Ext w w' := by
  have H := Lib.hid h
  clear h
  skip
  go_enter Try.func12, Try.ntmps12
  go_wp2_with (go_at_call 10; refine (PeriodsOf_bad r H.out _).mono ?_; rintro e w1 ⟨v0, rfl, hE, ho⟩; replace k0_0 : w1.cell? ⟨w.heap.size, 0, none⟩ = some (.int .i64 (r 0)) := (hE.cells _ _ (by first | exact l0 | (simp; done) | (simp; omega))).trans (by first | exact k0_0 | (go_simp; done)); replace k0_1 : w1.cell? ⟨w.heap.size, 1, none⟩ = some (.int .i64 (r 1)) := (hE.cells _ _ (by first | exact l0 | (simp; done) | (simp; omega))).trans (by first | exact k0_1 | (go_simp; done)); replace k0_2 : w1.cell? ⟨w.heap.size, 2, none⟩ = some (.int .i64 (r 2)) := (hE.cells _ _ (by first | exact l0 | (simp; done) | (simp; omega))).trans (by first | exact k0_2 | (go_simp; done)); replace k0_3 : w1.cell? ⟨w.heap.size, 3, none⟩ = some (.int .i64 (r 3)) := (hE.cells _ _ (by first | exact l0 | (simp; done) | (simp; omega))).trans (by first | exact k0_3 | (go_simp; done)); replace k0_4 : w1.cell? ⟨w.heap.size, 4, none⟩ = some (.int .i64 (r 4)) := (hE.cells _ _ (by first | exact l0 | (simp; done) | (simp; omega))).trans (by first | exact k0_4 | (go_simp; done)); replace k0_5 : w1.cell? ⟨w.heap.size, 5, none⟩ = some (.int .i64 (r 5)) := (hE.cells _ _ (by first | exact l0 | (simp; done) | (simp; omega))).trans (by first | exact k0_5 | (go_simp; done)); replace l0 : w.heap.size < w1.heap.size := Nat.lt_of_lt_of_le (by first | exact l0 | (simp; done) | (simp; omega)) hE.size; have HW := Lib.hid ho; clear ho)
  go_returns
  exact ⟨rfl, (by (repeat' (first | (with_reducible exact Ext.refl _) | (with_reducible assumption) | (with_reducible refine Ext.alloc ?_ _) | (with_reducible refine Ext.drew ?_) | (with_reducible refine Ext.drewN ?_ _) | (with_reducible refine Ext.setCell ?_ ?_ _) | (with_reducible refine Ext.trans ?_ (by assumption)))) <;> (first | (with_reducible assumption) | omega | (simp; done) | (simp; omega)))⟩
theorem CountShifts_ok (n : Nat) (hn : n < 68719476736) (w : World) : Calls Try.prog 12 #[(.agg #[.int .i64 (rw n 0), .int .i64 (rw n 1), .int .i64 (rw n 2), .int .i64 (rw n 3), .int .i64 (rw n 4), .int .i64 (rw n 5)])] w fun e w' => e = .returned (.tuple #[.int .i64 ((36 : Int) / ((pers n : Nat) : Int)), .bool true]) ∧ Ext w w' := by
  have HC := Lib.hid (fun w => PeriodsOf_ok n hn w)
  obtain ⟨p0, p1⟩ := pers_bd hn
  rw [show (fl (toP n n) 36).length = pers n from rfl] at HC
  obtain ⟨L, hL⟩ : ∃ L, L = pers n := ⟨_, rfl⟩
  rw [← hL] at HC p0 p1 ⊢
  clear hL
  obtain ⟨q1, q2⟩ := div36 (L := L)
  skip
  go_enter Try.func12, Try.ntmps12
  go_wp2_with (go_at_call 10; refine (HC.out _).mono ?_; rintro e w1 ⟨v, rfl, hE, ho⟩; obtain ⟨ao, cap, rfl, _⟩ := own_shape ho; clear ho)
  go_returns
  exact ⟨rfl, (by (repeat' (first | (with_reducible exact Ext.refl _) | (with_reducible assumption) | (with_reducible refine Ext.alloc ?_ _) | (with_reducible refine Ext.drew ?_) | (with_reducible refine Ext.drewN ?_ _) | (with_reducible refine Ext.setCell ?_ ?_ _) | (with_reducible refine Ext.trans ?_ (by assumption)))) <;> (first | (with_reducible assumption) | omega | (simp; done) | (simp; omega)))⟩
end Go.Proofs.Ytlifhoajamnehaa
set_option linter.unusedVariables false
set_option linter.unusedSimpArgs false
set_option maxRecDepth 100000
set_option maxHeartbeats 1000000
namespace Go.Proofs.Ytlifhoajamnehaa
/-! periods: shifts that keep a set are a group of pairs -/
/-- the shift with a number (first 6 * dx, then dy) -/
def tsh (n k : Nat) : Nat := sh n (k / 6) (k % 6)
def padd (i j : Nat) : Nat := 6 * ((i / 6 + j / 6) % 6) + (i % 6 + j % 6) % 6
def pneg (i : Nat) : Nat := 6 * ((6 - i / 6) % 6) + (6 - i % 6) % 6
theorem padd_lt (i j : Nat) : padd i j < 36 := by unfold padd; omega
theorem pneg_lt (i : Nat) : pneg i < 36 := by unfold pneg; omega
theorem padd_x (i j : Nat) : padd i j / 6 = (i / 6 + j / 6) % 6 := by unfold padd; omega
theorem padd_y (i j : Nat) : padd i j % 6 = (i % 6 + j % 6) % 6 := by unfold padd; omega
theorem tsh_lt (n k : Nat) : tsh n k < 68719476736 := sh_lt _ _ _
def six (a b : Nat) : Nat := (a + (6 - b)) % 6
theorem six_c : ∀ a, a < 6 → ∀ b, b < 6 → ∀ c, c < 6 → six (six a b) c = six a ((c + b) % 6) := by decide
theorem six_z : ∀ a, a < 6 → six a 0 = a := by decide
theorem src_six (x y j : Nat) : src x y j = six (j % 6) x + 6 * six (j / 6) y := rfl
theorem six_lt (a b : Nat) : six a b < 6 := Nat.mod_lt _ (by decide)
theorem src_src (a b c d j : Nat) (ha : a < 6) (hb : b < 6) (hc : c < 6) (hd : d < 6) (hj : j < 36) : src a b (src c d j) = src ((a + c) % 6) ((b + d) % 6) j := by
  have e1 : src c d j % 6 = six (j % 6) c := by rw [src_six]; have := six_lt (j % 6) c; omega
  have e2 : src c d j / 6 = six (j / 6) d := by rw [src_six]; have := six_lt (j % 6) c; omega
  rw [src_six a b, e1, e2, six_c _ (by omega) _ hc _ ha, six_c _ (by omega) _ hd _ hb]
  rfl
theorem sh_comp (n a b c d : Nat) (ha : a < 6) (hb : b < 6) (hc : c < 6) (hd : d < 6) : sh (sh n a b) c d = sh n ((a + c) % 6) ((b + d) % 6) :=
  ext36 (sh_lt _ _ _) (sh_lt _ _ _) fun j hj => by
    rw [testBit_sh _ _ _ _ hj, testBit_sh _ _ _ _ (src_lt _ _ _), testBit_sh _ _ _ _ hj, src_src a b c d j ha hb hc hd hj]
theorem sh_zero {n : Nat} (hn : n < 68719476736) : sh n 0 0 = n :=
  ext36 (sh_lt _ _ _) hn fun j hj => by
    rw [testBit_sh _ _ _ _ hj, src_six, six_z _ (by omega), six_z _ (by omega), show j % 6 + 6 * (j / 6) = j by omega]
theorem tsh_tsh (n i j : Nat) (hi : i < 36) (hj : j < 36) : tsh (tsh n i) j = tsh n (padd i j) := by
  unfold tsh
  rw [sh_comp n _ _ _ _ (by omega) (by omega) (by omega) (by omega), padd_x, padd_y]
theorem tsh_zero {n : Nat} (hn : n < 68719476736) : tsh n 0 = n := sh_zero hn
theorem padd_neg : ∀ i, i < 36 → padd i (pneg i) = 0 ∧ padd (pneg i) i = 0 := by decide
theorem padd_comm (i j : Nat) : padd i j = padd j i := by unfold padd; rw [Nat.add_comm (i / 6), Nat.add_comm (i % 6)]
theorem tsh_back {n : Nat} (hn : n < 68719476736) (i : Nat) (hi : i < 36) : tsh (tsh n i) (pneg i) = n := by
  rw [tsh_tsh n i _ hi (pneg_lt i), (padd_neg i hi).1, tsh_zero hn]
theorem tsh_inj {a b : Nat} (ha : a < 68719476736) (hb : b < 68719476736) (i : Nat) (hi : i < 36) (h : tsh a i = tsh b i) : a = b := by
  rw [← tsh_back ha i hi, h, tsh_back hb i hi]
/-- a group of pairs -/
structure Grp (p : Nat → Bool) : Prop where
  zero : p 0 = true
  add : ∀ i j, i < 36 → j < 36 → p i = true → p j = true → p (padd i j) = true
  neg : ∀ i, i < 36 → p i = true → p (pneg i) = true
theorem per_grp {n : Nat} (hn : n < 68719476736) : Grp fun k => decide (tsh n k = n) where
  zero := decide_eq_true (tsh_zero hn)
  add := fun i j hi hj h1 h2 => by
    have e1 := of_decide_eq_true h1
    have e2 := of_decide_eq_true h2
    refine decide_eq_true ?_
    rw [← tsh_tsh n i j hi hj, e1, e2]
  neg := fun i hi h1 => by
    have e1 := of_decide_eq_true h1
    refine decide_eq_true ?_
    have := tsh_back hn i hi
    rw [e1] at this
    exact this
/-! the size of a group divides 36 -/
def pc (m : Nat) : Nat := ((List.range 6).filter m.testBit).length
def cloB (K : Nat) : Bool := (List.range 6).all fun a => (List.range 6).all fun b => !(K.testBit a && K.testBit b) || K.testBit ((a + b) % 6)
def actB (K F : Nat) : Bool := (List.range 6).all fun a => (List.range 6).all fun b => !(F.testBit a && K.testBit b) || F.testBit ((a + b) % 6)
def difB (K F : Nat) : Bool := (List.range 6).all fun a => (List.range 6).all fun b => !(F.testBit a && F.testBit b) || K.testBit ((a + (6 - b)) % 6)
theorem fibs : ((List.range 64).all fun K => !(K.testBit 0 && cloB K) || (decide (pc K = 1 ∨ pc K = 2 ∨ pc K = 3 ∨ pc K = 6) && (List.range 64).all fun F => !(actB K F && difB K F) || (decide (F = 0) || decide (pc F = pc K)))) = true := by decide +kernel
theorem fib_K {K : Nat} (hK : K < 64) (h0 : K.testBit 0 = true) (hc : cloB K = true) : pc K = 1 ∨ pc K = 2 ∨ pc K = 3 ∨ pc K = 6 := by
  have h := List.all_eq_true.1 fibs K (List.mem_range.2 hK)
  simp only [h0, hc, Bool.and_self, Bool.not_true, Bool.false_or, Bool.and_eq_true, decide_eq_true_eq] at h
  exact h.1
theorem fib_F {K F : Nat} (hK : K < 64) (hF : F < 64) (h0 : K.testBit 0 = true) (hc : cloB K = true) (ha : actB K F = true) (hd : difB K F = true) : F = 0 ∨ pc F = pc K := by
  have h := List.all_eq_true.1 fibs K (List.mem_range.2 hK)
  simp only [h0, hc, Bool.and_self, Bool.not_true, Bool.false_or, Bool.and_eq_true, decide_eq_true_eq] at h
  have h2 := List.all_eq_true.1 h.2 F (List.mem_range.2 hF)
  simpa only [ha, hd, Bool.and_self, Bool.not_true, Bool.false_or, Bool.or_eq_true, decide_eq_true_eq] using h2
theorem range36 : List.range 36 = (List.range 6).flatMap fun x => (List.range 6).map fun y => 6 * x + y := by decide
def fibM (p : Nat → Bool) (x : Nat) : Nat := mkN (fun y => p (6 * x + y)) 6
theorem fibM_lt (p : Nat → Bool) (x : Nat) : fibM p x < 64 := mkN_lt _ 6
theorem fibM_bit (p : Nat → Bool) (x y : Nat) (hy : y < 6) : (fibM p x).testBit y = p (6 * x + y) := by unfold fibM; rw [testBit_mkN]; simp [hy]
theorem filt_fib (p : Nat → Bool) (x : Nat) : ((List.range 6).filter fun y => p (6 * x + y)).length = pc (fibM p x) := by
  unfold pc
  refine congrArg List.length (List.filter_congr fun y hy => ?_)
  rw [fibM_bit p x y (List.mem_range.1 hy)]
theorem sum_if (q : Nat → Bool) (κ : Nat) : ∀ l : List Nat, (l.map fun x => if q x = true then κ else 0).sum = κ * (l.filter q).length
  | [] => by simp
  | x :: l => by
    rw [List.map_cons, List.sum_cons, sum_if q κ l]
    cases h : q x
    · rw [List.filter_cons_of_neg (by rw [h]; decide)]; simp
    · rw [List.filter_cons_of_pos h, List.length_cons, Nat.mul_add, if_pos rfl]; omega
theorem div36_of {a b : Nat} (ha : a = 1 ∨ a = 2 ∨ a = 3 ∨ a = 6) (hb : b = 1 ∨ b = 2 ∨ b = 3 ∨ b = 6) : 36 / (a * b) * (a * b) = 36 := by
  rcases ha with rfl | rfl | rfl | rfl <;> rcases hb with rfl | rfl | rfl | rfl <;> decide
theorem p_at (p : Nat → Bool) {i j : Nat} (h : i = j) (hp : p i = true) : p j = true := h ▸ hp
theorem grp_div {p : Nat → Bool} (g : Grp p) : 36 / ((List.range 36).filter p).length * ((List.range 36).filter p).length = 36 := by
  have hK0 : (fibM p 0).testBit 0 = true := by rw [fibM_bit p 0 0 (by omega)]; exact g.zero
  have hKc : cloB (fibM p 0) = true := by
    unfold cloB
    simp only [List.all_eq_true, List.mem_range]
    intro a ha b hb
    rw [fibM_bit p 0 a ha, fibM_bit p 0 b hb, fibM_bit p 0 _ (Nat.mod_lt _ (by omega))]
    cases h1 : p (6 * 0 + a)
    · rfl
    · cases h2 : p (6 * 0 + b)
      · rfl
      · exact p_at p (by unfold padd; omega) (g.add _ _ (by omega) (by omega) h1 h2)
  have key : ∀ x, x < 6 → fibM p x = 0 ∨ pc (fibM p x) = pc (fibM p 0) := fun x hx => by
    refine fib_F (fibM_lt _ _) (fibM_lt _ _) hK0 hKc ?_ ?_
    · unfold actB
      simp only [List.all_eq_true, List.mem_range]
      intro a ha b hb
      rw [fibM_bit p x a ha, fibM_bit p 0 b hb, fibM_bit p x _ (Nat.mod_lt _ (by omega))]
      cases h1 : p (6 * x + a)
      · rfl
      · cases h2 : p (6 * 0 + b)
        · rfl
        · exact p_at p (by unfold padd; omega) (g.add _ _ (by omega) (by omega) h1 h2)
    · unfold difB
      simp only [List.all_eq_true, List.mem_range]
      intro a ha b hb
      rw [fibM_bit p x a ha, fibM_bit p x b hb, fibM_bit p 0 _ (Nat.mod_lt _ (by omega))]
      cases h1 : p (6 * x + a)
      · rfl
      · cases h2 : p (6 * x + b)
        · rfl
        · have h3 := g.neg _ (by omega) h2
          exact p_at p (by unfold padd pneg; omega) (g.add _ _ (by omega) (pneg_lt _) h1 h3)
  have hQ : ∀ x, x < 6 → (fibM (fun k => decide (fibM p (k / 6) ≠ 0 ∧ k % 6 = 0)) 0).testBit x = (fibM (fun k => decide (fibM p (k / 6) ≠ 0 ∧ k % 6 = 0)) 0).testBit x := fun _ _ => rfl
  let Q : Nat := mkN (fun x => decide (fibM p x ≠ 0)) 6
  have hQl : Q < 64 := mkN_lt _ 6
  have hQb : ∀ x, x < 6 → Q.testBit x = decide (fibM p x ≠ 0) := fun x hx => by show (mkN _ 6).testBit x = _; rw [testBit_mkN]; simp [hx]
  have some_of : ∀ x, fibM p x ≠ 0 → ∃ y, y < 6 ∧ p (6 * x + y) = true := fun x h => by
    by_cases hn : ∃ y, y < 6 ∧ p (6 * x + y) = true
    · exact hn
    · refine absurd (Nat.eq_of_testBit_eq fun y => ?_) h
      rw [Nat.zero_testBit]
      unfold fibM
      rw [testBit_mkN]
      by_cases hy : y < 6
      · cases h1 : p (6 * x + y)
        · simp
        · exact absurd ⟨y, hy, h1⟩ hn
      · simp [hy]
  have ne_of : ∀ x y, y < 6 → p (6 * x + y) = true → fibM p x ≠ 0 := fun x y hy h e => by
    have := fibM_bit p x y hy
    rw [e, Nat.zero_testBit, h] at this
    cases this
  have hQ0 : Q.testBit 0 = true := by
    rw [hQb 0 (by omega)]
    exact decide_eq_true (ne_of 0 0 (by omega) g.zero)
  have hQc : cloB Q = true := by
    unfold cloB
    simp only [List.all_eq_true, List.mem_range]
    intro a ha b hb
    rw [hQb a ha, hQb b hb, hQb _ (Nat.mod_lt _ (by omega))]
    by_cases h1 : fibM p a ≠ 0
    · by_cases h2 : fibM p b ≠ 0
      · obtain ⟨y, hy, e1⟩ := some_of a h1
        obtain ⟨z, hz, e2⟩ := some_of b h2
        have h3 := g.add _ _ (by omega) (by omega) e1 e2
        have h4 : fibM p ((a + b) % 6) ≠ 0 := ne_of _ ((y + z) % 6) (Nat.mod_lt _ (by omega)) (p_at p (by unfold padd; omega) h3)
        simp [h4]
      · simp [h2]
    · simp [h1]
  have hlen : ((List.range 36).filter p).length = pc (fibM p 0) * pc Q := by
    rw [range36, List.filter_flatMap, List.length_flatMap]
    have e : ∀ x ∈ List.range 6, (((List.range 6).map fun y => 6 * x + y).filter p).length = if Q.testBit x = true then pc (fibM p 0) else 0 := fun x hx => by
      have hx6 := List.mem_range.1 hx
      rw [List.filter_map, List.length_map]
      show ((List.range 6).filter fun y => p (6 * x + y)).length = _
      rw [filt_fib, hQb x hx6]
      rcases key x hx6 with h | h
      · rw [h]; simp; rfl
      · by_cases h0 : fibM p x = 0
        · rw [h0]; simp; rfl
        · rw [h]; simp [h0]
    rw [List.map_congr_left e, sum_if]
    rfl
  rw [hlen]
  exact div36_of (fib_K (fibM_lt _ _) hK0 hKc) (fib_K hQl hQ0 hQc)
/-! shifts to another set are as many as the periods -/
theorem padd_perm : ∀ k, k < 36 → ((List.range 36).map (padd k)).isPerm (List.range 36) = true := by decide +kernel
theorem to_len {a b : Nat} (ha : a < 68719476736) (k0 : Nat) (hk : k0 < 36) (h : tsh a k0 = b) :
    ((List.range 36).filter fun k => decide (tsh a k = b)).length = ((List.range 36).filter fun k => decide (tsh a k = a)).length := by
  have hp := List.isPerm_iff.1 (padd_perm k0 hk)
  rw [← (hp.filter fun k => decide (tsh a k = b)).length_eq, List.filter_map, List.length_map]
  refine congrArg List.length (List.filter_congr fun j hj => ?_)
  have hj36 := List.mem_range.1 hj
  show decide (tsh a (padd k0 j) = b) = decide (tsh a j = a)
  rw [padd_comm, ← tsh_tsh a j k0 hj36 hk, ← h]
  by_cases e : tsh a j = a
  · rw [e]; simp
  · have : ¬ tsh (tsh a j) k0 = tsh a k0 := fun h2 => e (tsh_inj (tsh_lt _ _) ha k0 hk h2)
    simp [e, this]
end Go.Proofs.Ytlifhoajamnehaa
set_option linter.unusedVariables false
set_option linter.unusedSimpArgs false
set_option maxRecDepth 100000
set_option maxHeartbeats 1000000
namespace Go.Proofs.Ytlifhoajamnehaa
/-! counting over all shifts -/
end Go.Proofs.Ytlifhoajamnehaa
