/- CovI: contracts of functions, and lemmas, for this seat. Conditions: as each states. -/
import Derived.Test.YtadnfocbfabjnaaOff
import Derived.Test.YtadnfocbfabjnaaCovL
import Derived.Test.YtadnfocbfabjnaaOpens
import Derived.Test.YtadnfocbfabjnaaMade
import Derived.Test.YtadnfocbfabjnaaNeed2
import Derived.Laws.EntriesVeiled
set_option linter.unusedVariables false
set_option maxRecDepth 100000
set_option maxHeartbeats 4000000
namespace Go.Proofs.Ytadnfocbfabjnaa
open Go Go.RowKit Instr
/-- the boxes that the inner function sees -/
structure BX (n t mm : Nat) (vo : Value) (fv : Value) (pm pt pw po pa ps C : Nat) (w : World) : Prop where
  hm : C ≤ pm ∧ pm < w.heap.size ∧ w.cell? ⟨pm, 0, none⟩ = some (.int .i64 (mm : Int))
  ht : C ≤ pt ∧ pt < w.heap.size ∧ w.cell? ⟨pt, 0, none⟩ = some (.int .u64 (t : Int))
  hw : C ≤ pw ∧ pw < w.heap.size ∧ w.cell? ⟨pw, 0, none⟩ = some fv
  ho : C ≤ po ∧ po < w.heap.size ∧ w.cell? ⟨po, 0, none⟩ = some vo
  ha : C ≤ pa ∧ pa < w.heap.size ∧ w.cell? ⟨pa, 0, none⟩ = some (.func (.func 226) #[] #[.pointer (some ⟨pm, 0, none⟩), .pointer (some ⟨pt, 0, none⟩), .pointer (some ⟨pw, 0, none⟩), .pointer (some ⟨po, 0, none⟩), .pointer (some ⟨pa, 0, none⟩), .pointer (some ⟨ps, 0, none⟩)])
  hs : C ≤ ps ∧ ps < w.heap.size ∧ w.cell? ⟨ps, 0, none⟩ = some (.int .u64 (n : Int))
theorem BX.off {n t mm : Nat} {vo fv : Value} {pm pt pw po pa ps C : Nat} {w w' : World} {S : Nat → Prop} (h : BX n t mm vo fv pm pt pw po pa ps C w) (hx : Off S w w') (hS : ∀ k, S k → k < C) : BX n t mm vo fv pm pt pw po pa ps C w' := by
  have key : ∀ (p : Nat) (v : Value), (C ≤ p ∧ p < w.heap.size ∧ w.cell? ⟨p, 0, none⟩ = some v) → (C ≤ p ∧ p < w'.heap.size ∧ w'.cell? ⟨p, 0, none⟩ = some v) := fun p v h =>
    ⟨h.1, Nat.lt_of_lt_of_le h.2.1 hx.size, (hx.cell h.2.1 (fun hs => by have := hS p hs; have := h.1; omega) 0).trans h.2.2⟩
  exact ⟨key _ _ h.hm, key _ _ h.ht, key _ _ h.hw, key _ _ h.ho, key _ _ h.ha, key _ _ h.hs⟩
theorem covers1_n (n : Nat) (hn : n < 68719476736) (t : Nat) (ht : t < 68719476736) (O : List Nat) (hG : ∀ (i k : Nat), O[i]? = some k → k < 36) (hlen : O.length ≤ 36) (mm : Nat) (hmm : mm ≤ 36)
    (f : FuncId) (caps : Array Value) (hcf : ∀ args w, (callFunc f args).run Try.prog w = .ok (.enter f args) w) (st : Bool)
    (S : Nat → Prop) (C : Nat) (hS : ∀ k, S k → k < C) (K : List (List Nat) → World → Prop) (hK : ∀ acc w w', K acc w → Ext w w' → K acc w')
    (HW : ∀ acc D u w, (st = true → acc = []) → acc.length < 1099511627776 → C ≤ w.heap.size → K acc w → w.ownsRow C 3 1 u D.length (ints D) → Calls Try.prog f (#[u] ++ caps) w fun e w' => e = .returned (.bool st) ∧ K (acc ++ [D]) w' ∧ Off S w w')
    (vo : Value) (pm pt pw po pa ps : Nat) :
    ∀ (m : Nat) (D : List Nat), D.length + m = mm → ∀ (i b : Nat) (xi : Int), xi = (i : Int) → i ≤ O.length → b < 68719476736 → ∀ (acc : List (List Nat)) (u : Value) (w : World), C ≤ w.heap.size → BX n t mm vo (.func (.func f) #[] caps) pm pt pw po pa ps C w → w.ownsRow C 3 1 vo O.length (ints O) → w.ownsRow C 3 1 u D.length (ints D) → K acc w → (st = true → acc = []) → acc.length + (kD (pr6 n) t (O.drop i) m b D).length ≤ 1099511627776 →
    Calls Try.prog 226 #[u, .int .i64 xi, .int .u64 (b : Int), .pointer (some ⟨pm, 0, none⟩), .pointer (some ⟨pt, 0, none⟩), .pointer (some ⟨pw, 0, none⟩), .pointer (some ⟨po, 0, none⟩), .pointer (some ⟨pa, 0, none⟩), .pointer (some ⟨ps, 0, none⟩)] w
      fun e w' => e = .returned (.bool (reS st (kD (pr6 n) t (O.drop i) m b D))) ∧ K (acc ++ prS st (kD (pr6 n) t (O.drop i) m b D)) w' ∧ Off S w w'
  | 0, D, hDm, i, b, xi, hxi, hi, hb, acc, u, w, hC, hbx, hvo, hu, hk, hst, hacc => by
    subst hxi
    have HCB := Lib.hid HW
    have HKK := Lib.hid hk
    obtain ⟨uo, uc, rfl, _⟩ := own_shape hu
    have HU := Lib.hid hu
    obtain ⟨⟨_, b1, b2⟩, ⟨_, b3, b4⟩, ⟨_, b5, b6⟩, _, _, _⟩ := hbx
    have hmd : mm = D.length := by omega
    subst hmd
    have HS := Lib.hid hst
    clear HW hK hk hu hvo hst hDm
    rw [kD_0] at hacc ⊢
    by_cases hbt : b = t
    · subst hbt
      rw [if_pos rfl] at hacc ⊢
      rw [prS_one, reS_one]
      have HA := Lib.hid (HCB.out acc D _ w HS.out (by simp at hacc; omega) hC HKK.out HU.out)
      go_enter Try.func226, Try.ntmps226
      go_wp2_with (refine HA.out.mono ?_; rintro e w1 ⟨rfl, hk1, hoff⟩)
      go_returns
      exact ⟨rfl, hk1, hoff⟩
    · rw [if_neg hbt, prS_nil, reS_nil, List.append_nil]
      have hne : ((b : Int) = (t : Int)) ↔ False := iff_of_false (by omega) id
      go_enter Try.func226, Try.ntmps226
      go_wp2
      go_returns
      exact ⟨rfl, HKK.out, Off.refl _ _⟩
  | m + 1, D, hDm, i, b, xi, hxi, hi, hb, acc, u, w, hC, hbx, hvo, hu, hk, hst, hacc => by
    subst hxi
    have IH := Lib.hid (covers1_n n hn t ht O hG hlen mm hmm f caps hcf st S C hS K hK HW vo pm pt pw po pa ps m)
    have hf := pr6_lt n
    have HG := Lib.hid hG
    have HKE := Lib.hid hK
    obtain ⟨i0, hi0, iz0, iz1, iz2⟩ := info_parts info_int
    clear hG HW hK
    obtain ⟨ao, cap, rfl, hsh⟩ := own_shape hvo
    have HV := Lib.hid hvo
    obtain ⟨uo, uc, rfl, _⟩ := own_shape hu
    have HU := Lib.hid hu
    have HB := Lib.hid hbx
    clear hvo hu hbx
    have HKK := Lib.hid hk
    have HS := Lib.hid hst
    clear hk hst
    have HKL := Lib.hid (fun (j : Nat) => kD_le (pr6 n) t (O.drop j) (m + 1) b D)
    have HCL := Lib.hid (fun B v w ho => clone_n D (by omega) B v w ho)
    obtain ⟨⟨_, b1, b2⟩, _, _, ⟨_, b7, b8⟩, _, _⟩ := HB.out
    have hdm : ((D.length : Int) = (mm : Int)) ↔ False := iff_of_false (by omega) id
    have hdb : ((D.length : Int) == (mm : Int)) = false := by rw [beq_eq_false_iff_ne]; omega
    go_enter Try.func226, Try.ntmps226
    go_wp2
    clear b1 b2 b7 b8
    go_loopw [13] (fun x wr => ∃ (j : Nat) (A : List (List Nat)), i ≤ j ∧ j ≤ O.length ∧ x = .int .i64 j ∧ kD (pr6 n) t (O.drop i) (m + 1) b D = A ++ kD (pr6 n) t (O.drop j) (m + 1) b D ∧ reS st A = false ∧ K (acc ++ prS st A) wr ∧ Off S w wr) (fun x _ => O.length - (intOf x).toNat)
    case atStart => exact ⟨i, [], Nat.le_refl _, hi, rfl, rfl, reS_nil _, by rw [prS_nil, List.append_nil]; exact HKK.out, Off.refl _ _⟩
    case round =>
      obtain ⟨j, A, hij, hj, rfl, hA, hrA, hkj, hx⟩ := hrel
      obtain ⟨wo, rfl⟩ : ∃ wo : World, wo = wr := ⟨_, rfl⟩
      have HKJ := Lib.hid hkj
      have HAE := Lib.hid hA
      have HRA := Lib.hid hrA
      clear hkj hA hrA
      have HV2 := Lib.hid (hx.own HV.out hS (Nat.le_refl _))
      have HU2 := Lib.hid (hx.own HU.out hS (Nat.le_refl _))
      have HB2 := Lib.hid (HB.out.off hx hS)
      have hC2 : C ≤ wo.heap.size := Nat.le_trans hC hx.size
      obtain ⟨⟨_, m1, m2⟩, ⟨_, t1, t2⟩, ⟨_, w1', w2'⟩, ⟨_, o1, o2⟩, ⟨_, a1, a2⟩, ⟨_, s1, s2⟩⟩ := HB2.out
      by_cases hlt : j + (m + 1) ≤ O.length
      · obtain ⟨bb, rfl, _, hbb⟩ := hsh (by omega)
        have hbo : bb < wo.heap.size := Nat.lt_of_lt_of_le hbb hx.size
        obtain ⟨k, hk⟩ : ∃ k, O[j]? = some k := ⟨O[j], List.getElem?_eq_getElem (by omega)⟩
        have hk36 := HG.out j k hk
        have c1 := (HV2.out.cellAt j (by omega)).trans (ints_get O j k hk)
        have hKD := kD_drop (pr6 n) t O hk m b D
        have HP := Lib.hid (show ∀ w, Calls Try.prog 128 #[.int .u64 (n : Int), .int .i64 (k : Int)] w fun e w' => e = .returned (.int .u64 (pr6 n k : Nat)) ∧ Ext w w' from fun w => pressed_any n k hn hk36 w)
        have e64o := or64 hb (hf k)
        have hcond : (j : Int) + (mm : Int) - (D.length : Int) ≤ (O.length : Int) := by omega
        have hpk := hf k
        have hAL := prS_len st A
        have haccA := hacc
        rw [HAE.out, hKD, List.length_append, List.length_append] at haccA
        have hEQ := HAE.out
        rw [hKD] at hEQ
        have HEQ := Lib.hid hEQ
        have hdec : O.length - (j + 1) < O.length - j := by omega
        have hD36 : D.length ≤ 36 := by omega
        have hij1 : i ≤ j + 1 := by omega
        have hj1 : j + 1 ≤ O.length := by omega
        clear hKD hk hEQ hacc
        generalize pr6 n k = pk at *
        have hbl : b ||| pk < 68719476736 := or36 hb hpk
        generalize hXe : kD (pr6 n) t (O.drop (j + 1)) m (b ||| pk) (D ++ [k]) = X at *
        have HXE := Lib.hid hXe
        clear hXe
        generalize hYe : kD (pr6 n) t (O.drop (j + 1)) (m + 1) b D = Y at *
        have HYE := Lib.hid hYe
        clear hYe
        go_wp2
        refine wp_made [(0, true), (1, true), (3, true), (4, true), (5, true), (6, true), (9, true), (10, true), (11, true), (12, true), (13, true), (14, true), (15, true), (16, true)] [(2, []), (7, [])] [(8, false), (17, true), (18, true)] [19] (fun i => if i = 2 then (fun v x => x.ownsRow wo.heap.size 3 1 v D.length (ints D) ∧ wo.heap.size ≤ x.heap.size) else Cel [.int .i64 (k : Int)]) (by kernel_rfl) (by kernel_rfl) ?_ ?_
        · intro i x
          split
          · exact fun _ _ hx h => ⟨own_ext h.1 hx, Nat.le_trans h.2 hx.size⟩
          · exact cel_stable _ _
        simp only [pickO, pickT, List.getElem?_cons_succ, List.getElem?_cons_zero]
        intro hgr
        (refine walkP_step (fun K hK => ?_); go_simp; (try (go_ints; try go_simp)); first | (refine hK _ ?_; clear hK K) | (apply Exists.intro; refine ⟨fun _ => ?_, hK _ ?_⟩; (fail); clear hK K) | (simp only [↓IntWalk.iteOmega]; (try go_simp); (try (go_ints; try go_simp)); first | (refine hK _ ?_; clear hK K) | (apply Exists.intro; refine ⟨fun _ => ?_, hK _ ?_⟩; (fail); clear hK K))); (refine walkP_step (fun K hK => ?_); go_simp; (try (go_ints; try go_simp)); first | (refine hK _ ?_; clear hK K) | (apply Exists.intro; refine ⟨fun _ => ?_, hK _ ?_⟩; (fail); clear hK K) | (simp only [↓IntWalk.iteOmega]; (try go_simp); (try (go_ints; try go_simp)); first | (refine hK _ ?_; clear hK K) | (apply Exists.intro; refine ⟨fun _ => ?_, hK _ ?_⟩; (fail); clear hK K))); (refine walkP_step (fun K hK => ?_); go_simp; (try (go_ints; try go_simp)); first | (refine hK _ ?_; clear hK K) | (apply Exists.intro; refine ⟨fun _ => ?_, hK _ ?_⟩; (fail); clear hK K) | (simp only [↓IntWalk.iteOmega]; (try go_simp); (try (go_ints; try go_simp)); first | (refine hK _ ?_; clear hK K) | (apply Exists.intro; refine ⟨fun _ => ?_, hK _ ?_⟩; (fail); clear hK K))); (refine walkP_step (fun K hK => ?_); go_simp; (try (go_ints; try go_simp)); first | (refine hK _ ?_; clear hK K) | (apply Exists.intro; refine ⟨fun _ => ?_, hK _ ?_⟩; (fail); clear hK K) | (simp only [↓IntWalk.iteOmega]; (try go_simp); (try (go_ints; try go_simp)); first | (refine hK _ ?_; clear hK K) | (apply Exists.intro; refine ⟨fun _ => ?_, hK _ ?_⟩; (fail); clear hK K))); (refine walkP_step (fun K hK => ?_); go_simp; (try (go_ints; try go_simp)); first | (refine hK _ ?_; clear hK K) | (apply Exists.intro; refine ⟨fun _ => ?_, hK _ ?_⟩; (fail); clear hK K) | (simp only [↓IntWalk.iteOmega]; (try go_simp); (try (go_ints; try go_simp)); first | (refine hK _ ?_; clear hK K) | (apply Exists.intro; refine ⟨fun _ => ?_, hK _ ?_⟩; (fail); clear hK K))); (refine walkP_step (fun K hK => ?_); go_simp; (try (go_ints; try go_simp)); first | (refine hK _ ?_; clear hK K) | (apply Exists.intro; refine ⟨fun _ => ?_, hK _ ?_⟩; (fail); clear hK K) | (simp only [↓IntWalk.iteOmega]; (try go_simp); (try (go_ints; try go_simp)); first | (refine hK _ ?_; clear hK K) | (apply Exists.intro; refine ⟨fun _ => ?_, hK _ ?_⟩; (fail); clear hK K))); (refine walkP_step (fun K hK => ?_); go_simp; (try (go_ints; try go_simp)); first | (refine hK _ ?_; clear hK K) | (apply Exists.intro; refine ⟨fun _ => ?_, hK _ ?_⟩; (fail); clear hK K) | (simp only [↓IntWalk.iteOmega]; (try go_simp); (try (go_ints; try go_simp)); first | (refine hK _ ?_; clear hK K) | (apply Exists.intro; refine ⟨fun _ => ?_, hK _ ?_⟩; (fail); clear hK K))); (refine walkP_step (fun K hK => ?_); go_simp; (try (go_ints; try go_simp)); first | (refine hK _ ?_; clear hK K) | (apply Exists.intro; refine ⟨fun _ => ?_, hK _ ?_⟩; (fail); clear hK K) | (simp only [↓IntWalk.iteOmega]; (try go_simp); (try (go_ints; try go_simp)); first | (refine hK _ ?_; clear hK K) | (apply Exists.intro; refine ⟨fun _ => ?_, hK _ ?_⟩; (fail); clear hK K))); (refine walkP_step (fun K hK => ?_); go_simp; (try (go_ints; try go_simp)); first | (refine hK _ ?_; clear hK K) | (apply Exists.intro; refine ⟨fun _ => ?_, hK _ ?_⟩; (fail); clear hK K) | (simp only [↓IntWalk.iteOmega]; (try go_simp); (try (go_ints; try go_simp)); first | (refine hK _ ?_; clear hK K) | (apply Exists.intro; refine ⟨fun _ => ?_, hK _ ?_⟩; (fail); clear hK K))); (refine walkP_step (fun K hK => ?_); go_simp; (try (go_ints; try go_simp)); first | (refine hK _ ?_; clear hK K) | (apply Exists.intro; refine ⟨fun _ => ?_, hK _ ?_⟩; (fail); clear hK K) | (simp only [↓IntWalk.iteOmega]; (try go_simp); (try (go_ints; try go_simp)); first | (refine hK _ ?_; clear hK K) | (apply Exists.intro; refine ⟨fun _ => ?_, hK _ ?_⟩; (fail); clear hK K))); (refine walkP_step (fun K hK => ?_); go_simp; (try (go_ints; try go_simp)); first | (refine hK _ ?_; clear hK K) | (apply Exists.intro; refine ⟨fun _ => ?_, hK _ ?_⟩; (fail); clear hK K) | (simp only [↓IntWalk.iteOmega]; (try go_simp); (try (go_ints; try go_simp)); first | (refine hK _ ?_; clear hK K) | (apply Exists.intro; refine ⟨fun _ => ?_, hK _ ?_⟩; (fail); clear hK K))); (refine walkP_step (fun K hK => ?_); go_simp; (try (go_ints; try go_simp)); first | (refine hK _ ?_; clear hK K) | (apply Exists.intro; refine ⟨fun _ => ?_, hK _ ?_⟩; (fail); clear hK K) | (simp only [↓IntWalk.iteOmega]; (try go_simp); (try (go_ints; try go_simp)); first | (refine hK _ ?_; clear hK K) | (apply Exists.intro; refine ⟨fun _ => ?_, hK _ ?_⟩; (fail); clear hK K))); (refine walkP_step (fun K hK => ?_); go_simp; (try (go_ints; try go_simp)); first | (refine hK _ ?_; clear hK K) | (apply Exists.intro; refine ⟨fun _ => ?_, hK _ ?_⟩; (fail); clear hK K) | (simp only [↓IntWalk.iteOmega]; (try go_simp); (try (go_ints; try go_simp)); first | (refine hK _ ?_; clear hK K) | (apply Exists.intro; refine ⟨fun _ => ?_, hK _ ?_⟩; (fail); clear hK K))); (refine walkP_step (fun K hK => ?_); go_simp; (try (go_ints; try go_simp)); first | (refine hK _ ?_; clear hK K) | (apply Exists.intro; refine ⟨fun _ => ?_, hK _ ?_⟩; (fail); clear hK K) | (simp only [↓IntWalk.iteOmega]; (try go_simp); (try (go_ints; try go_simp)); first | (refine hK _ ?_; clear hK K) | (apply Exists.intro; refine ⟨fun _ => ?_, hK _ ?_⟩; (fail); clear hK K)))
        refine walkP_nil ⟨?_, List.forall_mem_cons.2 ⟨?_, List.forall_mem_cons.2 ⟨?_, fun _ h => nomatch h⟩⟩, fun xs F hF => ?_⟩
        · simp [dstO]
        · intro ow how xs wc hxc hF hd R hR
          simp only [List.getElem?_cons_succ, List.getElem?_cons_zero, Option.some.injEq] at how
          subst how
          simp only [puts, List.map_nil]
          have hxd : Ext wo wc := ((Ext.refl wo).drew).trans hxc
          go_simp
          simp only [anyUpon]
          go_at_call 218
          refine (HCL.out _ _ _ (own_ext HU2.out hxd)).mono ?_
          rintro e w1 ⟨v, rfl, hE, ho⟩
          exact ⟨_, rfl, hR _ _ hE ⟨own_mono ho hxd.size, Nat.le_trans hxd.size hE.size⟩⟩
        · intro ow how xs wc hxc hF hd R hR
          simp only [List.getElem?_cons_succ, List.getElem?_cons_zero, Option.some.injEq] at how
          subst how
          simp only [puts, List.map_nil]
          go_simp
          simp only [anyUpon]
          exact hR _ _ ((Ext.refl _).alloc _) (cel_one _ _)
        simp only [dstO, puts, List.map_cons, List.map_nil, List.getElem?_cons_succ, List.getElem?_cons_zero, Option.bind_some, Option.getD_some] at hF ⊢
        have hF2 : ∀ w', F w' → w'.ownsRow wo.heap.size 3 1 (xs 40) D.length (ints D) ∧ wo.heap.size ≤ w'.heap.size := fun w' h => (hF w' h).2 (2, []) (by simp)
        have hF7 : ∀ w', F w' → Cel [.int .i64 (k : Int)] (xs 45) w' := fun w' h => (hF w' h).2 (7, []) (by simp)
        clear hF
        refine walkP_appendF rfl _ _ _ rfl wo.heap.size 3 i0 (.int .i64 0) 1 8 Try.underlying44 hi0 iz0 iz1 iz2 (by rfl) (by decide) (by simp) (xs 40) D.length (ints D) (by rfl) (xs 45) 1 [.int .i64 (k : Int)] (by rfl) (by rfl) (by simp [Value.oneCell']) (by unfold maxLen; omega) (by omega) (fun wc hxc hFw => ?_) (fun v2 => ?_)
        · obtain ⟨f1, f2⟩ := hF2 wc hFw
          obtain ⟨b2, f4, f5, f6⟩ := hF7 wc hFw
          exact ⟨f1, f2, _, _, f4, f6⟩
        (refine walkP_step (fun K hK => ?_); go_simp; (try (go_ints; try go_simp)); first | (refine hK _ ?_; clear hK K) | (apply Exists.intro; refine ⟨fun _ => ?_, hK _ ?_⟩; ((go_at_call 128; exact (HP.out _))); clear hK K) | (simp only [↓IntWalk.iteOmega]; (try go_simp); (try (go_ints; try go_simp)); first | (refine hK _ ?_; clear hK K) | (apply Exists.intro; refine ⟨fun _ => ?_, hK _ ?_⟩; ((go_at_call 128; exact (HP.out _))); clear hK K))); (refine walkP_step (fun K hK => ?_); go_simp; (try (go_ints; try go_simp)); first | (refine hK _ ?_; clear hK K) | (apply Exists.intro; refine ⟨fun _ => ?_, hK _ ?_⟩; ((go_at_call 128; exact (HP.out _))); clear hK K) | (simp only [↓IntWalk.iteOmega]; (try go_simp); (try (go_ints; try go_simp)); first | (refine hK _ ?_; clear hK K) | (apply Exists.intro; refine ⟨fun _ => ?_, hK _ ?_⟩; ((go_at_call 128; exact (HP.out _))); clear hK K)))
        refine walkP_nil ?_
        clear hgr
        intro w1 hE hFw
        replace hE : Ext wo w1 := ((Ext.refl wo).drew).trans hE
        obtain ⟨g1, g2⟩ := hFw
        have HUn := Lib.hid (show w1.ownsRow C 3 1 v2 (D ++ [k]).length (ints (D ++ [k])) by rw [List.length_append, ints_append]; exact own_mono g1 hC2)
        have HVn := Lib.hid (own_ext HV2.out hE)
        have HBn := Lib.hid (HB2.out.off (hE.off S) hS)
        have HKn := Lib.hid (HKE.out _ _ _ HKJ.out hE)
        have hCn : C ≤ w1.heap.size := Nat.le_trans hC2 hE.size
        have HSn := Lib.hid (fun (h : st = true) => (show acc ++ prS st A = [] by rw [HS.out h, prS_keep HRA.out h]; rfl))
        have hcf1 := Try.call226
        have HXn := Lib.hid (hx.trans (hE.off S))
        have hlX : (acc ++ prS st A).length + X.length ≤ 1099511627776 := by rw [List.length_append]; omega
        have hl0 : (D ++ [k]).length + m = mm := by rw [List.length_append]; simp; omega
        clear g1 g2 m1 m2 t1 t2 w1' w2' o1 o2 a1 a2 s1 s2 c1
        have HRC := Lib.hid (fun hX => IH.out (D ++ [k]) hl0 (j + 1) (b ||| pk) ((j : Int) + 1) (by omega) (by omega) hbl (acc ++ prS st A) _ w1 hCn HBn.out HVn.out HUn.out HKn.out HSn.out hX)
        rw [HXE.out] at HRC
        cases hrX : reS st X
        · rw [hrX] at HRC
          have HG1 := Lib.hid (prS_go hrX Y)
          have HG2 := Lib.hid (prS_go HRA.out X)
          have HEN := Lib.hid (show kD (pr6 n) t (O.drop i) (m + 1) b D = (A ++ X) ++ kD (pr6 n) t (O.drop (j + 1)) (m + 1) b D by rw [HYE.out, HEQ.out, List.append_assoc])
          have HRX := Lib.hid (show reS st (A ++ X) = false by rw [HG2.out.2, hrX])
          clear hrX
          go_wp2_with (refine (HRC.out hlX).mono ?_; rintro e w2 ⟨rfl, hk2, hoff2⟩)
          rw [List.append_assoc, ← HG2.out.1] at hk2
          refine ⟨?_, by simp [intOf]; exact hdec⟩
          exact ⟨j + 1, A ++ X, hij1, hj1, by go_num, HEN.out, HRX.out, hk2, HXn.out.trans hoff2⟩
        · rw [hrX] at HRC
          have HG1 := Lib.hid (prS_stop hrX Y)
          have HG2 := Lib.hid (prS_go HRA.out (X ++ Y))
          clear hrX
          go_wp2_with (refine (HRC.out hlX).mono ?_; rintro e w2 ⟨rfl, hk2, hoff2⟩)
          go_returns
          exact ⟨by rw [HEQ.out, HG2.out.2, HG1.out.2]; rfl, by rw [HEQ.out, HG2.out.1, HG1.out.1, ← List.append_assoc]; exact hk2, HXn.out.trans hoff2⟩
      · have hsh0 := kD_short (pr6 n) t (O.drop j) (m + 1) b D (by rw [List.length_drop]; omega)
        have hEQ : kD (pr6 n) t (O.drop i) (m + 1) b D = A := by rw [HAE.out, hsh0, List.append_nil]
        have hcond : ¬ ((j : Int) + (mm : Int) - (D.length : Int) ≤ (O.length : Int)) := by omega
        go_wp2
        go_returns
        exact ⟨by rw [HRA.out]; rfl, HKJ.out, hx⟩
/-- covers hands over all covers of so many cells, or as many as are asked for -/
theorem covers_n (n : Nat) (hn : n < 68719476736) (t : Nat) (ht : t < 68719476736) (O : List Nat) (hO : O = fl (opP n t) 36) (mm : Nat) (hmm : mm ≤ 36)
    (f : FuncId) (caps : Array Value) (hcf : ∀ args w, (callFunc f args).run Try.prog w = .ok (.enter f args) w) (st : Bool)
    (S : Nat → Prop) (K : List (List Nat) → World → Prop) (hK : ∀ acc w w', K acc w → Ext w w' → K acc w') (w : World) (hS : ∀ k, S k → k < w.heap.size)
    (HW : ∀ acc D u w', (st = true → acc = []) → acc.length < 1099511627776 → w.heap.size ≤ w'.heap.size → K acc w' → w'.ownsRow w.heap.size 3 1 u D.length (ints D) → Calls Try.prog f (#[u] ++ caps) w' fun e w'' => e = .returned (.bool st) ∧ K (acc ++ [D]) w'' ∧ Off S w' w'')
    (acc : List (List Nat)) (hk : K acc w) (hst : st = true → acc = []) (hacc : acc.length + (kV (pr6 n) t O mm 0).length ≤ 1099511627776) :
    Calls Try.prog 187 #[.int .u64 (n : Int), .int .u64 (t : Int), .int .i64 (mm : Int), .func (.func f) #[] caps] w
      fun e w' => ∃ r, e = .returned r ∧ K (acc ++ prS st (kV (pr6 n) t O mm 0)) w' ∧ Off S w w' := by
  have HO := Lib.hid (fun w => open_n n t ht hn w)
  rw [← hO] at HO
  have hG : ∀ (i k : Nat), O[i]? = some k → k < 36 := by rw [hO]; exact fun i k h => fl_lt h
  have hlen : O.length ≤ 36 := by rw [hO]; exact fl_le _ _
  have HC := Lib.hid (fun (vo : Value) (pm pt pw po pa ps : Nat) (u : Value) (w' : World) h1 h2 h3 h4 h5 => covers1_n n hn t ht O hG hlen mm hmm f caps hcf st S w.heap.size hS K hK HW vo pm pt pw po pa ps mm [] (by simp) 0 0 0 rfl (Nat.zero_le _) (by omega) acc u w' h1 h2 h3 h4 h5 hst (by rw [List.drop_zero, kD_start]; exact hacc))
  rw [List.drop_zero, kD_start] at HC
  have HK := Lib.hid hk
  have HKE := Lib.hid hK
  clear hk hK HW hst hacc hO hG
  have hcf1 := Try.call226
  generalize kV (pr6 n) t O mm 0 = LL at *
  skip
  go_enter Try.func187, Try.ntmps187
  obtain ⟨w4, hw4⟩ : ∃ w4, w4 = (((w.alloc (.cells #[.int .u64 (n : Int)] 99)).alloc (.cells #[.int .u64 (t : Int)] 99)).alloc (.cells #[.int .i64 (mm : Int)] 3)).alloc (.cells #[.func (.func f) #[] caps] 175) := ⟨_, rfl⟩
  have hz4 : w4.heap.size = w.heap.size + 4 := by rw [hw4]; simp
  have hx4 : Ext w w4 := by rw [hw4]; exact ((((Ext.refl w).alloc _).alloc _).alloc _).alloc _
  have k4s : w4.cell? ⟨w.heap.size, 0, none⟩ = some (.int .u64 (n : Int)) := by rw [hw4]; go_simp
  have k4t : w4.cell? ⟨w.heap.size + 1, 0, none⟩ = some (.int .u64 (t : Int)) := by rw [hw4]; go_simp
  have k4m : w4.cell? ⟨w.heap.size + 1 + 1, 0, none⟩ = some (.int .i64 (mm : Int)) := by rw [hw4]; go_simp
  have k4w : w4.cell? ⟨w.heap.size + 1 + 1 + 1, 0, none⟩ = some (.func (.func f) #[] caps) := by rw [hw4]; go_simp
  have HW4 := Lib.hid hw4
  have K4S := Lib.hid k4s
  have K4T := Lib.hid k4t
  have K4M := Lib.hid k4m
  have K4W := Lib.hid k4w
  clear hw4 k4s k4t k4m k4w
  go_wp2_with (first | ((go_at_call 153; refine (HO.out _).mono ?_; rintro e w1 ⟨v0, rfl, hE, ho⟩; have HV := Lib.hid ho; clear ho); obtain ⟨vo, vc, rfl, _⟩ := own_shape HV.out; rw [← HW4.out] at hE; have hE4 := hE; have hza := hE.size; have HVa := Lib.hid (own_mono (B' := w.heap.size) HV.out (by rw [← HW4.out]; omega)); obtain ⟨wa, rfl⟩ : ∃ x, x = w1 := ⟨_, rfl⟩) | (refine (HC.out (.slice vo O.length vc) (w.heap.size + 1 + 1) (w.heap.size + 1) (w.heap.size + 1 + 1 + 1) wa.heap.size (wa.heap.size + 1) w.heap.size _ _ ?_ ?_ ?_ ?_ ?_).mono ?_))
  · simp; omega
  · have hx5 : Ext wa (((wa.alloc (.cells #[.slice vo O.length vc] 44)).alloc (.cells #[.func (.func 226) #[] #[.pointer (some ⟨w.heap.size + 1 + 1, 0, none⟩), .pointer (some ⟨w.heap.size + 1, 0, none⟩), .pointer (some ⟨w.heap.size + 1 + 1 + 1, 0, none⟩), .pointer (some ⟨wa.heap.size, 0, none⟩), .pointer (some ⟨wa.heap.size + 1, 0, none⟩), .pointer (some ⟨w.heap.size, 0, none⟩)]] 194)).alloc (.cells #[] 3)) := (((Ext.refl wa).alloc _).alloc _).alloc _
    have hs5 := hx5.size
    refine ⟨⟨by omega, by omega, (hx5.cells _ _ (by omega)).trans ((hE4.cells _ _ (by omega)).trans K4M.out)⟩, ⟨by omega, by omega, (hx5.cells _ _ (by omega)).trans ((hE4.cells _ _ (by omega)).trans K4T.out)⟩, ⟨by omega, by omega, (hx5.cells _ _ (by omega)).trans ((hE4.cells _ _ (by omega)).trans K4W.out)⟩, ⟨by omega, by simp; omega, ?_⟩, ⟨by omega, by simp, ?_⟩, ⟨by omega, by omega, (hx5.cells _ _ (by omega)).trans ((hE4.cells _ _ (by omega)).trans K4S.out)⟩⟩
    · go_simp
    · go_simp
  · exact own_ext HVa.out ((((Ext.refl wa).alloc _).alloc _).alloc _)
  · exact own_empty _ 3 1 w.heap.size (by simp; omega) (by simp)
  · exact HKE.out _ _ _ HK.out (hx4.trans (hE4.trans ((((Ext.refl wa).alloc _).alloc _).alloc _)))
  · rintro e w2 ⟨rfl, hk2, hoff2⟩
    go_wp2
    go_returns
    exact ⟨_, rfl, hk2, ((hx4.trans (hE4.trans ((((Ext.refl wa).alloc _).alloc _).alloc _))).off S).trans hoff2⟩
end Go.Proofs.Ytadnfocbfabjnaa
