/- WFnCommon: contracts of functions, and lemmas, for this seat. Conditions: as each states. -/
import Derived.Test.YtlifhoajamnehaaCo16
import Derived.Test.YtlifhoajamnehaaCo17
import Derived.Test.YtlifhoajamnehaaCo18
import Derived.Test.YtlifhoajamnehaaCo08
import Derived.Test.YtlifhoajamnehaaCo05
import Derived.Deep.DeepCutAuto
set_option linter.unusedVariables false
set_option linter.unusedSimpArgs false
set_option maxRecDepth 100000
set_option maxHeartbeats 100000000
namespace Go.Proofs.Ytlifhoajamnehaa
open Go Go.RowKit Instr
theorem sA_le {t : Nat → Nat} (h : ∀ c, t c ≤ 36) : ∀ k, sA t k ≤ 36 * k
  | 0 => Nat.le_refl _
  | k + 1 => by have := sA_le h k; have := h k; rw [sA]; omega
theorem sB_le {t : Nat → Nat} (h : ∀ c, t c ≤ 36) : ∀ k, k ≤ 37 → sB t k ≤ 1332 * k
  | 0, _ => Nat.le_refl _
  | k + 1, hk => by have := sB_le h k (by omega); have : k * t k ≤ 37 * 36 := Nat.mul_le_mul (by omega) (h k); rw [sB]; omega
theorem tpN_le (t : Nat → Nat) : ∀ k, tpN t k ≤ k
  | 0 => Nat.le_refl _
  | k + 1 => by have := tpN_le t k; rw [tpN]; split <;> omega
inductive Stop (p : Prop) : Prop
  | mk (h : p) : Stop p
theorem stop_at {P : Program} {ops : Array Oper} {Q : Exit → Act → World → Prop} {rest : List Oper} {o : Oper} {a : Act} {w : World} (d : Nat) (h : o.dst = some d) (k : Stop (wpList P ops Q (o :: rest) a w)) : wpList P ops Q (o :: rest) a w := match k with | .mk h => h
theorem walkCM (v : Value) (n : Nat) (hn : n ≤ 65536) (hcap : capOk v) (w : World) (hr : Byt w w.heap.size v n) : Calls Try.prog 4 #[v] w fun e w' => e = .returned (.bool true) ∧ Ext w w' := by
  have HR0 := Lib.hid hr
  have HCAP := Lib.hid hcap
  have HX := Lib.hid (Ext.refl w)
  obtain ⟨ao, cap, rfl, -⟩ := hr
  clear hcap
  have HVB := Lib.hid (fun w => vBig_n false ao n cap (by simp; omega) w)
  have nq2 := fun (x y : Int) => neq2_is x y x y false (by simp)
  have nq37 := neq37_is
  skip
  have tk0 := Lib.hid True.intro; have tk1 := Lib.hid True.intro; have tk2 := Lib.hid True.intro; have tk3 := Lib.hid True.intro; have tk4 := Lib.hid True.intro; have tk5 := Lib.hid True.intro; have tk6 := Lib.hid True.intro; have tk7 := Lib.hid True.intro; have tk8 := Lib.hid True.intro; have tk9 := Lib.hid True.intro; have tk10 := Lib.hid True.intro; have tk11 := Lib.hid True.intro; have tk12 := Lib.hid True.intro; have tk13 := Lib.hid True.intro; have tk14 := Lib.hid True.intro; have tk15 := Lib.hid True.intro; have tk16 := Lib.hid True.intro; have tk17 := Lib.hid True.intro; have tk18 := Lib.hid True.intro; have tk19 := Lib.hid True.intro; have tk20 := Lib.hid True.intro; have tk21 := Lib.hid True.intro; have tk22 := Lib.hid True.intro; have tk23 := Lib.hid True.intro; have tk24 := Lib.hid True.intro; have tk25 := Lib.hid True.intro; have tk26 := Lib.hid True.intro; have tk27 := Lib.hid True.intro; have tk28 := Lib.hid True.intro; have tk29 := Lib.hid True.intro; have tk30 := Lib.hid True.intro; have tk31 := Lib.hid True.intro; have tk32 := Lib.hid True.intro; have tk33 := Lib.hid True.intro; have tk34 := Lib.hid True.intro; have tk35 := Lib.hid True.intro; have tk36 := Lib.hid True.intro; have tk37 := Lib.hid True.intro; have tk38 := Lib.hid True.intro; have tk39 := Lib.hid True.intro
  go_enter Try.func4, Try.ntmps4
  repeat' (go_not_at_region 7; first | (clear tk0; go_at_call 8; refine (HVB.out _).mono ?_; rintro e w1 ⟨rfl, hE⟩; (first | have hq := Ext.link0 HX.out hE | have hq := Ext.link1 HX.out hE | have hq := Ext.link2 HX.out hE | have hq := Ext.link3 HX.out hE); replace HX := Lib.hid (HX.out.trans hq); clear hq hE; obtain ⟨w0, rfl⟩ : ∃ x, x = w1 := ⟨_, rfl⟩) | (clear tk1; go_at_call 30; refine (dDrawCommonTable_n _ n _ (by first | exact byt_mono (byt_ext HR0.out (Nat.le_refl _) HX.out) HX.out.size | exact byt_mono (byt_ext HR0.out (Nat.le_refl _) (HX.out.alloc _)) (HX.out.alloc _).size | exact byt_mono (byt_ext HR0.out (Nat.le_refl _) ((HX.out.alloc _).alloc _)) ((HX.out.alloc _).alloc _).size)).mono ?_; rintro e w1 ⟨r, s, hsr, hss, rfl, hE⟩; (first | have hq := Ext.link0 HX.out hE | have hq := Ext.link1 HX.out hE | have hq := Ext.link2 HX.out hE | have hq := Ext.link3 HX.out hE); replace HX := Lib.hid (HX.out.trans hq); clear hq hE; obtain ⟨w2, rfl⟩ : ∃ x, x = w1 := ⟨_, rfl⟩; (obtain ⟨tab, f1, f2, p1, p2, m1, m2, q1, q2, cx, cy, mo, ok, two, ⟨h1, h2⟩, ⟨h3, h4⟩, ⟨h5, h6⟩, ⟨h7, h8⟩, ⟨h9, h10⟩, ⟨h11, h12⟩, hcase⟩ := cmF1 r s hsr hss; have H1 := Lib.hid h1; have H2 := Lib.hid h2; have H3 := Lib.hid h3; have H4 := Lib.hid h4; have H5 := Lib.hid h5; have H6 := Lib.hid h6; have H7 := Lib.hid h7; have H8 := Lib.hid h8; have H9 := Lib.hid h9; have H10 := Lib.hid h10; have H11 := Lib.hid h11; have H12 := Lib.hid h12; have HCS := Lib.hid hcase; clear h1 h2 h3 h4 h5 h6 h7 h8 h9 h10 h11 h12 hcase hsr hss)) | (clear tk2; go_at_call 31; refine (H1.out _).mono ?_; rintro e w1 ⟨rfl, hE⟩; (first | have hq := Ext.link0 HX.out hE | have hq := Ext.link1 HX.out hE | have hq := Ext.link2 HX.out hE | have hq := Ext.link3 HX.out hE); have HA := Lib.hid (Kp.new21 (r) hE); have cHA := HA.out.c6; have HB := Lib.hid (Kp.new22 (s) hE); have cHB := HB.out.c6; replace HX := Lib.hid (HX.out.trans hq); clear hq hE; obtain ⟨w3, rfl⟩ : ∃ x, x = w1 := ⟨_, rfl⟩) | (refine wpList_alloc_av rfl (makes37 rfl) ?_; (try go_simp)) | (refine wpList_store_new rfl rfl rfl rfl (b := w3.heap.size) (Big.new _ _ 37 _ rfl) (szz _ _ _) (sz37 _) (av_one _ _) ?_; intro w1 hO hN; have hE := hO.ext ((Ext.refl _).alloc _) (Nat.le_refl _); clear hO; (first | have hq := Ext.link0 HX.out hE | have hq := Ext.link1 HX.out hE | have hq := Ext.link2 HX.out hE | have hq := Ext.link3 HX.out hE); replace HA := Lib.hid (HA.out.ext hq); replace cHA := HA.out.c6; replace HB := Lib.hid (HB.out.ext hq); replace cHB := HB.out.c6; replace HX := Lib.hid (HX.out.trans hq); clear hq hE; have HT := Lib.hid (KpB.mk hN); clear hN; have cHT := HT.out.c6; obtain ⟨w4, rfl⟩ : ∃ x, x = w1 := ⟨_, rfl⟩; (try go_simp)) | (clear tk3; go_at_call 32; refine (H2.out _).mono ?_; rintro e w1 ⟨rfl, hE⟩; (first | have hq := Ext.link0 HX.out hE | have hq := Ext.link1 HX.out hE | have hq := Ext.link2 HX.out hE | have hq := Ext.link3 HX.out hE); replace HA := Lib.hid (HA.out.ext hq); replace cHA := HA.out.c6; replace HB := Lib.hid (HB.out.ext hq); replace cHB := HB.out.c6; replace HT := Lib.hid (HT.out.ext hq); replace cHT := HT.out.c6; replace HX := Lib.hid (HX.out.trans hq); clear hq hE; obtain ⟨w5, rfl⟩ : ∃ x, x = w1 := ⟨_, rfl⟩) | (refine wpList_store_new rfl rfl rfl rfl (b := w5.heap.size) (Big.new _ _ 37 _ rfl) (szz _ _ _) (sz37 _) (av_one _ _) ?_; intro w1 hO hN; have hE := hO.ext ((Ext.refl _).alloc _) (Nat.le_refl _); clear hO; (first | have hq := Ext.link0 HX.out hE | have hq := Ext.link1 HX.out hE | have hq := Ext.link2 HX.out hE | have hq := Ext.link3 HX.out hE); replace HA := Lib.hid (HA.out.ext hq); replace cHA := HA.out.c6; replace HB := Lib.hid (HB.out.ext hq); replace cHB := HB.out.c6; replace HT := Lib.hid (HT.out.ext hq); replace cHT := HT.out.c6; replace HX := Lib.hid (HX.out.trans hq); clear hq hE; have HTW := Lib.hid (KpB.mk hN); clear hN; have cHTW := HTW.out.c6; obtain ⟨w6, rfl⟩ : ∃ x, x = w1 := ⟨_, rfl⟩; (try go_simp)) | (clear tk4; go_at_call 33; refine (H3.out _).mono ?_; rintro e w1 ⟨rfl, hE⟩; (first | have hq := Ext.link0 HX.out hE | have hq := Ext.link1 HX.out hE | have hq := Ext.link2 HX.out hE | have hq := Ext.link3 HX.out hE); replace HA := Lib.hid (HA.out.ext hq); replace cHA := HA.out.c6; replace HB := Lib.hid (HB.out.ext hq); replace cHB := HB.out.c6; replace HT := Lib.hid (HT.out.ext hq); replace cHT := HT.out.c6; replace HTW := Lib.hid (HTW.out.ext hq); replace cHTW := HTW.out.c6; replace HX := Lib.hid (HX.out.trans hq); clear hq hE; obtain ⟨w7, rfl⟩ : ∃ x, x = w1 := ⟨_, rfl⟩) | go_skip | go_guarded | go_step | go_upon | go_values | (simp only []))
  as_aux_lemma =>
  repeat' (go_not_at_region 15; first | (clear tk5; go_at_call 34; refine (H4.out _).mono ?_; rintro e w1 ⟨rfl, hE⟩; (first | have hq := Ext.link0 HX.out hE | have hq := Ext.link1 HX.out hE | have hq := Ext.link2 HX.out hE | have hq := Ext.link3 HX.out hE); replace HA := Lib.hid (HA.out.ext hq); replace cHA := HA.out.c6; replace HB := Lib.hid (HB.out.ext hq); replace cHB := HB.out.c6; replace HT := Lib.hid (HT.out.ext hq); replace cHT := HT.out.c6; replace HTW := Lib.hid (HTW.out.ext hq); replace cHTW := HTW.out.c6; have HF := Lib.hid (Kp2.new1 f1 f2 hE); have cHF := HF.out.c6; replace HX := Lib.hid (HX.out.trans hq); clear hq hE; obtain ⟨w8, rfl⟩ : ∃ x, x = w1 := ⟨_, rfl⟩) | (clear tk6; go_at_call 35; refine (H5.out _).mono ?_; rintro e w1 ⟨rfl, hE⟩; (first | have hq := Ext.link0 HX.out hE | have hq := Ext.link1 HX.out hE | have hq := Ext.link2 HX.out hE | have hq := Ext.link3 HX.out hE); replace HA := Lib.hid (HA.out.ext hq); replace cHA := HA.out.c6; replace HB := Lib.hid (HB.out.ext hq); replace cHB := HB.out.c6; replace HT := Lib.hid (HT.out.ext hq); replace cHT := HT.out.c6; replace HTW := Lib.hid (HTW.out.ext hq); replace cHTW := HTW.out.c6; replace HF := Lib.hid (HF.out.ext hq); replace cHF := HF.out.c6; have HFW := Lib.hid (Kp2.new1 f1 f2 hE); have cHFW := HFW.out.c6; replace HX := Lib.hid (HX.out.trans hq); clear hq hE; obtain ⟨w9, rfl⟩ : ∃ x, x = w1 := ⟨_, rfl⟩) | (clear tk7; go_at_call 36; refine (H6.out _).mono ?_; rintro e w1 ⟨rfl, hE⟩; (first | have hq := Ext.link0 HX.out hE | have hq := Ext.link1 HX.out hE | have hq := Ext.link2 HX.out hE | have hq := Ext.link3 HX.out hE); replace HA := Lib.hid (HA.out.ext hq); replace cHA := HA.out.c6; replace HB := Lib.hid (HB.out.ext hq); replace cHB := HB.out.c6; replace HT := Lib.hid (HT.out.ext hq); replace cHT := HT.out.c6; replace HTW := Lib.hid (HTW.out.ext hq); replace cHTW := HTW.out.c6; replace HF := Lib.hid (HF.out.ext hq); replace cHF := HF.out.c6; replace HFW := Lib.hid (HFW.out.ext hq); replace cHFW := HFW.out.c6; have HP := Lib.hid (Kp2.new1 p1 p2 hE); have cHP := HP.out.c6; replace HX := Lib.hid (HX.out.trans hq); clear hq hE; obtain ⟨w10, rfl⟩ : ∃ x, x = w1 := ⟨_, rfl⟩) | (clear tk8; go_at_call 37; refine (H7.out _).mono ?_; rintro e w1 ⟨rfl, hE⟩; (first | have hq := Ext.link0 HX.out hE | have hq := Ext.link1 HX.out hE | have hq := Ext.link2 HX.out hE | have hq := Ext.link3 HX.out hE); replace HA := Lib.hid (HA.out.ext hq); replace cHA := HA.out.c6; replace HB := Lib.hid (HB.out.ext hq); replace cHB := HB.out.c6; replace HT := Lib.hid (HT.out.ext hq); replace cHT := HT.out.c6; replace HTW := Lib.hid (HTW.out.ext hq); replace cHTW := HTW.out.c6; replace HF := Lib.hid (HF.out.ext hq); replace cHF := HF.out.c6; replace HFW := Lib.hid (HFW.out.ext hq); replace cHFW := HFW.out.c6; replace HP := Lib.hid (HP.out.ext hq); replace cHP := HP.out.c6; have HPW := Lib.hid (Kp2.new1 p1 p2 hE); have cHPW := HPW.out.c6; replace HX := Lib.hid (HX.out.trans hq); clear hq hE; obtain ⟨w11, rfl⟩ : ∃ x, x = w1 := ⟨_, rfl⟩) | (clear tk9; go_at_call 38; refine (H8.out _).mono ?_; rintro e w1 ⟨rfl, hE⟩; (first | have hq := Ext.link0 HX.out hE | have hq := Ext.link1 HX.out hE | have hq := Ext.link2 HX.out hE | have hq := Ext.link3 HX.out hE); replace HA := Lib.hid (HA.out.ext hq); replace cHA := HA.out.c6; replace HB := Lib.hid (HB.out.ext hq); replace cHB := HB.out.c6; replace HT := Lib.hid (HT.out.ext hq); replace cHT := HT.out.c6; replace HTW := Lib.hid (HTW.out.ext hq); replace cHTW := HTW.out.c6; replace HF := Lib.hid (HF.out.ext hq); replace cHF := HF.out.c6; replace HFW := Lib.hid (HFW.out.ext hq); replace cHFW := HFW.out.c6; replace HP := Lib.hid (HP.out.ext hq); replace cHP := HP.out.c6; replace HPW := Lib.hid (HPW.out.ext hq); replace cHPW := HPW.out.c6; have HM := Lib.hid (Kp2.new1 m1 m2 hE); have cHM := HM.out.c6; replace HX := Lib.hid (HX.out.trans hq); clear hq hE; obtain ⟨w12, rfl⟩ : ∃ x, x = w1 := ⟨_, rfl⟩) | (clear tk10; go_at_call 39; refine (H9.out _).mono ?_; rintro e w1 ⟨rfl, hE⟩; (first | have hq := Ext.link0 HX.out hE | have hq := Ext.link1 HX.out hE | have hq := Ext.link2 HX.out hE | have hq := Ext.link3 HX.out hE); replace HA := Lib.hid (HA.out.ext hq); replace cHA := HA.out.c6; replace HB := Lib.hid (HB.out.ext hq); replace cHB := HB.out.c6; replace HT := Lib.hid (HT.out.ext hq); replace cHT := HT.out.c6; replace HTW := Lib.hid (HTW.out.ext hq); replace cHTW := HTW.out.c6; replace HF := Lib.hid (HF.out.ext hq); replace cHF := HF.out.c6; replace HFW := Lib.hid (HFW.out.ext hq); replace cHFW := HFW.out.c6; replace HP := Lib.hid (HP.out.ext hq); replace cHP := HP.out.c6; replace HPW := Lib.hid (HPW.out.ext hq); replace cHPW := HPW.out.c6; replace HM := Lib.hid (HM.out.ext hq); replace cHM := HM.out.c6; have HMW := Lib.hid (Kp2.new1 m1 m2 hE); have cHMW := HMW.out.c6; replace HX := Lib.hid (HX.out.trans hq); clear hq hE; obtain ⟨w13, rfl⟩ : ∃ x, x = w1 := ⟨_, rfl⟩) | (clear tk11; go_at_call 40; refine (H10.out _).mono ?_; rintro e w1 ⟨rfl, hE⟩; (first | have hq := Ext.link0 HX.out hE | have hq := Ext.link1 HX.out hE | have hq := Ext.link2 HX.out hE | have hq := Ext.link3 HX.out hE); replace HA := Lib.hid (HA.out.ext hq); replace cHA := HA.out.c6; replace HB := Lib.hid (HB.out.ext hq); replace cHB := HB.out.c6; replace HT := Lib.hid (HT.out.ext hq); replace cHT := HT.out.c6; replace HTW := Lib.hid (HTW.out.ext hq); replace cHTW := HTW.out.c6; replace HF := Lib.hid (HF.out.ext hq); replace cHF := HF.out.c6; replace HFW := Lib.hid (HFW.out.ext hq); replace cHFW := HFW.out.c6; replace HP := Lib.hid (HP.out.ext hq); replace cHP := HP.out.c6; replace HPW := Lib.hid (HPW.out.ext hq); replace cHPW := HPW.out.c6; replace HM := Lib.hid (HM.out.ext hq); replace cHM := HM.out.c6; replace HMW := Lib.hid (HMW.out.ext hq); replace cHMW := HMW.out.c6; have HQ := Lib.hid (Kp2.new1 q1 q2 hE); have cHQ := HQ.out.c6; replace HX := Lib.hid (HX.out.trans hq); clear hq hE; obtain ⟨w14, rfl⟩ : ∃ x, x = w1 := ⟨_, rfl⟩) | (clear tk12; go_at_call 41; refine (H11.out _).mono ?_; rintro e w1 ⟨rfl, hE⟩; (first | have hq := Ext.link0 HX.out hE | have hq := Ext.link1 HX.out hE | have hq := Ext.link2 HX.out hE | have hq := Ext.link3 HX.out hE); replace HA := Lib.hid (HA.out.ext hq); replace cHA := HA.out.c6; replace HB := Lib.hid (HB.out.ext hq); replace cHB := HB.out.c6; replace HT := Lib.hid (HT.out.ext hq); replace cHT := HT.out.c6; replace HTW := Lib.hid (HTW.out.ext hq); replace cHTW := HTW.out.c6; replace HF := Lib.hid (HF.out.ext hq); replace cHF := HF.out.c6; replace HFW := Lib.hid (HFW.out.ext hq); replace cHFW := HFW.out.c6; replace HP := Lib.hid (HP.out.ext hq); replace cHP := HP.out.c6; replace HPW := Lib.hid (HPW.out.ext hq); replace cHPW := HPW.out.c6; replace HM := Lib.hid (HM.out.ext hq); replace cHM := HM.out.c6; replace HMW := Lib.hid (HMW.out.ext hq); replace cHMW := HMW.out.c6; replace HQ := Lib.hid (HQ.out.ext hq); replace cHQ := HQ.out.c6; have HQW := Lib.hid (Kp2.new1 q1 q2 hE); have cHQW := HQW.out.c6; replace HX := Lib.hid (HX.out.trans hq); clear hq hE; obtain ⟨w15, rfl⟩ : ∃ x, x = w1 := ⟨_, rfl⟩) | go_skip | go_guarded | go_step | go_upon | go_values | (simp only []))
  clear H1 H2 H3 H4 H5 H6 H7 H8 H9 H10 H11
  as_aux_lemma =>
  skip
  go_cut [28, 29, 30] (fun x y z w' => ∃ q : Nat, x = .pointer (some ⟨q, 0, none⟩) ∧ y = .int .i64 mo ∧ z = .bool ok ∧ Kp2 w' q cx cy ∧ Kp2 w' w15.heap.size cx cy ∧ Ext w15 w')
  case first =>
    replace HX := Lib.hid (Ext.refl w15)
    repeat' (first | (clear tk13; go_at_call 42; refine (H12.out _).mono ?_; rintro e w1 ⟨rfl, hE⟩; (first | have hq := Ext.link0 HX.out hE | have hq := Ext.link1 HX.out hE | have hq := Ext.link2 HX.out hE | have hq := Ext.link3 HX.out hE); replace HA := Lib.hid (HA.out.ext hq); replace cHA := HA.out.c6; replace HB := Lib.hid (HB.out.ext hq); replace cHB := HB.out.c6; replace HT := Lib.hid (HT.out.ext hq); replace cHT := HT.out.c6; replace HTW := Lib.hid (HTW.out.ext hq); replace cHTW := HTW.out.c6; replace HF := Lib.hid (HF.out.ext hq); replace cHF := HF.out.c6; replace HFW := Lib.hid (HFW.out.ext hq); replace cHFW := HFW.out.c6; replace HP := Lib.hid (HP.out.ext hq); replace cHP := HP.out.c6; replace HPW := Lib.hid (HPW.out.ext hq); replace cHPW := HPW.out.c6; replace HM := Lib.hid (HM.out.ext hq); replace cHM := HM.out.c6; replace HMW := Lib.hid (HMW.out.ext hq); replace cHMW := HMW.out.c6; replace HQ := Lib.hid (HQ.out.ext hq); replace cHQ := HQ.out.c6; replace HQW := Lib.hid (HQW.out.ext hq); replace cHQW := HQW.out.c6; have HC := Lib.hid (Kp2.new1 cx cy hE); have cHC := HC.out.c6; replace HX := Lib.hid (HX.out.trans hq); clear hq hE; obtain ⟨w16, rfl⟩ : ∃ x, x = w1 := ⟨_, rfl⟩) | go_skip | go_guarded | go_step | go_upon | go_values | (simp only []))
    go_meet
    case rel => exact ⟨w16.heap.size, rfl, rfl, rfl, Kp2.new1 cx cy (Ext.refl _), HC.out.ext ((Ext.refl _).alloc _), HX.out.alloc _⟩
  case rest =>
    as_aux_lemma =>
    obtain ⟨qb, rfl, rfl, rfl, hcw, hc, hcut⟩ := hcut
    have hE := hcut; clear hcut; (first | have hq := Ext.link0 HX.out hE | have hq := Ext.link1 HX.out hE | have hq := Ext.link2 HX.out hE | have hq := Ext.link3 HX.out hE); replace HA := Lib.hid (HA.out.ext hq); replace cHA := HA.out.c6; replace HB := Lib.hid (HB.out.ext hq); replace cHB := HB.out.c6; replace HT := Lib.hid (HT.out.ext hq); replace cHT := HT.out.c6; replace HTW := Lib.hid (HTW.out.ext hq); replace cHTW := HTW.out.c6; replace HF := Lib.hid (HF.out.ext hq); replace cHF := HF.out.c6; replace HFW := Lib.hid (HFW.out.ext hq); replace cHFW := HFW.out.c6; replace HP := Lib.hid (HP.out.ext hq); replace cHP := HP.out.c6; replace HPW := Lib.hid (HPW.out.ext hq); replace cHPW := HPW.out.c6; replace HM := Lib.hid (HM.out.ext hq); replace cHM := HM.out.c6; replace HMW := Lib.hid (HMW.out.ext hq); replace cHMW := HMW.out.c6; replace HQ := Lib.hid (HQ.out.ext hq); replace cHQ := HQ.out.c6; replace HQW := Lib.hid (HQW.out.ext hq); replace cHQW := HQW.out.c6; replace HX := Lib.hid (HX.out.trans hq); clear hq hE; obtain ⟨w17, rfl⟩ : ∃ x, x = wc := ⟨_, rfl⟩
    clear H12
    have HCW := Lib.hid hcw
    have cHCW := HCW.out.c6
    have HC := Lib.hid hc
    have cHC := HC.out.c6
    clear hcw hc
    skip
    repeat' (go_not_at_region 16; first | fail | go_skip | go_guarded | go_step | go_upon | go_values | (simp only []))
    skip
    go_cut [218] (fun s w' => s = .bool false ∧ Ext w17 w')
    case first =>
     as_aux_lemma =>
      replace HX := Lib.hid (Ext.refl w17)
      repeat' (first | (clear tk20; (refine wpList_load_row rfl 53 (.tmp 5) rfl _ rfl _ _ _ _ HT.out Try.underlying53 rfl (sz37 _) ?_; (try go_simp))) | (clear tk21; (refine wpList_load_row rfl 53 (.tmp 7) rfl _ rfl _ _ _ _ HTW.out Try.underlying53 rfl (sz37 _) ?_; (try go_simp))) | (clear tk22; refine stop_at 213 rfl ?_) | go_skip | go_guarded | go_step | go_upon | go_values | (simp only []))
      refine Stop.mk ?_
      rcases HCS.out with ⟨rfl, rfl⟩ | ⟨rfl, rfl, _⟩ | ⟨rfl, rfl, _⟩
      all_goals
        repeat' (first | fail | go_skip | go_guarded | go_step | go_upon | go_values | (simp only []))
      all_goals
        go_meet
        case rel => exact ⟨by simp, HX.out⟩
    case rest =>
      as_aux_lemma =>
      obtain ⟨rfl, hcut⟩ := hcut
      have hE := hcut; clear hcut; (first | have hq := Ext.link0 HX.out hE | have hq := Ext.link1 HX.out hE | have hq := Ext.link2 HX.out hE | have hq := Ext.link3 HX.out hE); replace HA := Lib.hid (HA.out.ext hq); replace cHA := HA.out.c6; replace HB := Lib.hid (HB.out.ext hq); replace cHB := HB.out.c6; replace HT := Lib.hid (HT.out.ext hq); replace cHT := HT.out.c6; replace HTW := Lib.hid (HTW.out.ext hq); replace cHTW := HTW.out.c6; replace HF := Lib.hid (HF.out.ext hq); replace cHF := HF.out.c6; replace HFW := Lib.hid (HFW.out.ext hq); replace cHFW := HFW.out.c6; replace HP := Lib.hid (HP.out.ext hq); replace cHP := HP.out.c6; replace HPW := Lib.hid (HPW.out.ext hq); replace cHPW := HPW.out.c6; replace HM := Lib.hid (HM.out.ext hq); replace cHM := HM.out.c6; replace HMW := Lib.hid (HMW.out.ext hq); replace cHMW := HMW.out.c6; replace HQ := Lib.hid (HQ.out.ext hq); replace cHQ := HQ.out.c6; replace HQW := Lib.hid (HQW.out.ext hq); replace cHQW := HQW.out.c6; replace HC := Lib.hid (HC.out.ext hq); replace cHC := HC.out.c6; replace HX := Lib.hid (HX.out.trans hq); clear hq hE; obtain ⟨w18, rfl⟩ : ∃ x, x = wc := ⟨_, rfl⟩
      (try clear HTW HFW HPW HMW HQW cHTW cHFW cHPW cHMW cHQW)
      have HCS2 := Lib.hid (show (ok = false ∧ two = false) ∨ (ok = true ∧ (two = false ∨ (two = true ∧ (0 < f1 ∧ q1 * f1 = q2 * f2 ∧ 0 ≤ q2 * f2 ∧ q2 * f2 ≤ 1296))) ∧ CmOk r s tab f1 f2 p1 p2 m1 m2 cx cy mo) from by
        rcases HCS.out with ⟨h1, h2⟩ | ⟨h1, h2, _, h3⟩ | ⟨h1, h2, h3, h4⟩
        · exact .inl ⟨h1, h2⟩
        · exact .inr ⟨h1, .inl h2, h3⟩
        · exact .inr ⟨h1, .inr ⟨h2, h3⟩, h4⟩)
      clear HCS
      rcases HCS2.out with ⟨rfl, rfl⟩ | ⟨rfl, htwo, hok⟩
      · clear HCS2
        repeat' (first | fail | go_skip | go_guarded | go_step | go_upon | go_values | (simp only []))
        (go_ret; exact ⟨rfl, by first | exact HX.out | exact HX.out.alloc _ | exact (HX.out.alloc _).alloc _⟩)
      clear HCS2
      have HTWO := Lib.hid htwo
      clear htwo
      obtain ⟨t, X, Y, Z, sz, Sm, T0, rfl, h1, h2, h3, h4, h5, ht36, hA, hS, hT, hT0, ⟨e1, e2, e3⟩, ⟨e4, e5, e6⟩, ⟨e7, e8, e9⟩⟩ := hok
      have G1 := Lib.hid h1
      have G2 := Lib.hid h2
      have G3 := Lib.hid h3
      have G4 := Lib.hid h4
      have G5 := Lib.hid h5
      have HA' := Lib.hid hA
      have HS' := Lib.hid hS
      have HT' := Lib.hid hT
      have HT0 := Lib.hid hT0
      have HE := Lib.hid (And.intro e1 (And.intro e4 e7))
      clear h1 h2 h3 h4 h5 hA hS hT hT0 e1 e4 e7
      repeat' (first | fail | go_skip | go_guarded | go_step | go_upon | go_values | (simp only []))
      go_loopw [31, 32, 33, 34] (fun a s p i wr => ∃ k : Nat, k ≤ 37 ∧ i = .int .i64 (k : Int) ∧ a = .int .i64 ((sA t k : Nat) : Int) ∧ s = .int .i64 ((sB t k : Nat) : Int) ∧ p = .int .i64 ((tpN t k : Nat) : Int) ∧ wr = w18) (fun _ _ _ i _ => 37 - (intOf i).toNat)
      case atStart => exact ⟨0, Nat.zero_le _, rfl, rfl, rfl, rfl, rfl⟩
      case round =>
        obtain ⟨k, hk, rfl, rfl, rfl, rfl, rfl⟩ := hrel
        obtain ⟨w18, rfl⟩ : ∃ x, x = wr := ⟨_, rfl⟩
        by_cases hlt : k < 37
        · clear cHA cHB cHF cHP cHM cHQ cHC e2 e3 e5 e6 e8 e9
          obtain ⟨A, eA⟩ : ∃ A, A = sA t k := ⟨_, rfl⟩
          obtain ⟨S, eS⟩ : ∃ A, A = sB t k := ⟨_, rfl⟩
          obtain ⟨M, eM⟩ : ∃ A, A = tpN t k := ⟨_, rfl⟩
          obtain ⟨T, eT⟩ : ∃ A, A = t k := ⟨_, rfl⟩
          obtain ⟨P, eP⟩ : ∃ A, A = k * t k := ⟨_, rfl⟩
          have HA1 := Lib.hid (show sA t (k + 1) = A + T by rw [sA, eA, eT])
          have HS1 := Lib.hid (show sB t (k + 1) = S + P by rw [sB, eS, eP])
          have b1 : A ≤ 36 * k := eA ▸ sA_le ht36 k
          have b2 : S ≤ 1332 * k := eS ▸ sB_le ht36 k (by omega)
          have b3 : M ≤ k := eM ▸ tpN_le t k
          have b4 : T ≤ 36 := eT ▸ ht36 k
          have b5 : P ≤ 1332 := by rw [eP]; exact Nat.mul_le_mul (show k ≤ 37 by omega) (ht36 k)
          have hP : (k : Int) * (T : Int) = (P : Int) := by rw [eP, ← eT]; exact (Int.natCast_mul _ _).symm
          have ct : w18.cell? ⟨w3.heap.size, k, none⟩ = some (.int .i64 (T : Int)) := by rw [eT]; exact Big.cell HT.out hlt
          rw [← eA, ← eS, ← eM]
          by_cases h0 : 0 < T
          · as_aux_lemma =>
            have HM1 := Lib.hid (show tpN t (k + 1) = k by rw [tpN, if_pos (eT ▸ h0)])
            have d0 : decide (0 < (T : Int)) = true := decide_eq_true (by omega)
            clear eA eS eM eT eP ht36
            repeat' (first | fail | go_skip | go_guarded | go_step | go_upon | go_values | (simp only []))
            (first | exact ⟨⟨k + 1, by omega, by go_num, by rw [HA1.out]; go_num, by rw [HS1.out]; go_num, by rw [HM1.out], by first | rfl | trivial⟩, by simp [intOf]; omega⟩ | (refine ⟨?_, by simp [intOf]; omega⟩; (repeat apply Exists.intro); exact ⟨⟨k + 1, by omega, by go_num, by rw [HA1.out]; go_num, by rw [HS1.out]; go_num, by rw [HM1.out], by first | rfl | trivial⟩, rfl⟩))
          · as_aux_lemma =>
            have HM1 := Lib.hid (show tpN t (k + 1) = M by rw [tpN, if_neg (eT ▸ h0), eM])
            have d0 : decide (0 < (T : Int)) = false := decide_eq_false (by omega)
            clear eA eS eM eT eP ht36
            repeat' (first | fail | go_skip | go_guarded | go_step | go_upon | go_values | (simp only []))
            (first | exact ⟨⟨k + 1, by omega, by go_num, by rw [HA1.out]; go_num, by rw [HS1.out]; go_num, by rw [HM1.out], by first | rfl | trivial⟩, by simp [intOf]; omega⟩ | (refine ⟨?_, by simp [intOf]; omega⟩; (repeat apply Exists.intro); exact ⟨⟨k + 1, by omega, by go_num, by rw [HA1.out]; go_num, by rw [HS1.out]; go_num, by rw [HM1.out], by first | rfl | trivial⟩, rfl⟩))
        · as_aux_lemma =>
          obtain rfl : k = 37 := by omega
          rw [HA'.out, HS'.out, HT'.out]
          obtain ⟨e1, e4, e7⟩ := HE.out
          clear ht36
          repeat' (go_not_at_region 33; first | (clear tk14; go_at_call 43; refine (G1.out _).mono ?_; rintro e w1 ⟨rfl, hE⟩; (first | have hq := Ext.link0 HX.out hE | have hq := Ext.link1 HX.out hE | have hq := Ext.link2 HX.out hE | have hq := Ext.link3 HX.out hE); replace HA := Lib.hid (HA.out.ext hq); replace cHA := HA.out.c6; replace HB := Lib.hid (HB.out.ext hq); replace cHB := HB.out.c6; replace HT := Lib.hid (HT.out.ext hq); replace cHT := HT.out.c6; replace HF := Lib.hid (HF.out.ext hq); replace cHF := HF.out.c6; replace HP := Lib.hid (HP.out.ext hq); replace cHP := HP.out.c6; replace HM := Lib.hid (HM.out.ext hq); replace cHM := HM.out.c6; replace HQ := Lib.hid (HQ.out.ext hq); replace cHQ := HQ.out.c6; replace HC := Lib.hid (HC.out.ext hq); replace cHC := HC.out.c6; replace HX := Lib.hid (HX.out.trans hq); clear hq hE; obtain ⟨w19, rfl⟩ : ∃ x, x = w1 := ⟨_, rfl⟩) | (clear tk15; go_at_call 44; refine (G2.out _).mono ?_; rintro e w1 ⟨rfl, hE⟩; (first | have hq := Ext.link0 HX.out hE | have hq := Ext.link1 HX.out hE | have hq := Ext.link2 HX.out hE | have hq := Ext.link3 HX.out hE); replace HA := Lib.hid (HA.out.ext hq); replace cHA := HA.out.c6; replace HB := Lib.hid (HB.out.ext hq); replace cHB := HB.out.c6; replace HT := Lib.hid (HT.out.ext hq); replace cHT := HT.out.c6; replace HF := Lib.hid (HF.out.ext hq); replace cHF := HF.out.c6; replace HP := Lib.hid (HP.out.ext hq); replace cHP := HP.out.c6; replace HM := Lib.hid (HM.out.ext hq); replace cHM := HM.out.c6; replace HQ := Lib.hid (HQ.out.ext hq); replace cHQ := HQ.out.c6; replace HC := Lib.hid (HC.out.ext hq); replace cHC := HC.out.c6; have HX1 := Lib.hid (Kp.new1 (X) hE); have cHX1 := HX1.out.c6; replace HX := Lib.hid (HX.out.trans hq); clear hq hE; obtain ⟨w20, rfl⟩ : ∃ x, x = w1 := ⟨_, rfl⟩) | (clear tk16; go_at_call 28; refine (G3.out _).mono ?_; rintro e w1 ⟨rfl, hE⟩; (first | have hq := Ext.link0 HX.out hE | have hq := Ext.link1 HX.out hE | have hq := Ext.link2 HX.out hE | have hq := Ext.link3 HX.out hE); replace HA := Lib.hid (HA.out.ext hq); replace cHA := HA.out.c6; replace HB := Lib.hid (HB.out.ext hq); replace cHB := HB.out.c6; replace HT := Lib.hid (HT.out.ext hq); replace cHT := HT.out.c6; replace HF := Lib.hid (HF.out.ext hq); replace cHF := HF.out.c6; replace HP := Lib.hid (HP.out.ext hq); replace cHP := HP.out.c6; replace HM := Lib.hid (HM.out.ext hq); replace cHM := HM.out.c6; replace HQ := Lib.hid (HQ.out.ext hq); replace cHQ := HQ.out.c6; replace HC := Lib.hid (HC.out.ext hq); replace cHC := HC.out.c6; replace HX1 := Lib.hid (HX1.out.ext hq); replace cHX1 := HX1.out.c6; replace HX := Lib.hid (HX.out.trans hq); clear hq hE; obtain ⟨w21, rfl⟩ : ∃ x, x = w1 := ⟨_, rfl⟩) | (clear tk17; go_at_call 45; refine (G4.out _).mono ?_; rintro e w1 ⟨rfl, hE⟩; (first | have hq := Ext.link0 HX.out hE | have hq := Ext.link1 HX.out hE | have hq := Ext.link2 HX.out hE | have hq := Ext.link3 HX.out hE); replace HA := Lib.hid (HA.out.ext hq); replace cHA := HA.out.c6; replace HB := Lib.hid (HB.out.ext hq); replace cHB := HB.out.c6; replace HT := Lib.hid (HT.out.ext hq); replace cHT := HT.out.c6; replace HF := Lib.hid (HF.out.ext hq); replace cHF := HF.out.c6; replace HP := Lib.hid (HP.out.ext hq); replace cHP := HP.out.c6; replace HM := Lib.hid (HM.out.ext hq); replace cHM := HM.out.c6; replace HQ := Lib.hid (HQ.out.ext hq); replace cHQ := HQ.out.c6; replace HC := Lib.hid (HC.out.ext hq); replace cHC := HC.out.c6; replace HX1 := Lib.hid (HX1.out.ext hq); replace cHX1 := HX1.out.c6; have HX2 := Lib.hid (Kp.new1 (Y) hE); have cHX2 := HX2.out.c6; replace HX := Lib.hid (HX.out.trans hq); clear hq hE; obtain ⟨w22, rfl⟩ : ∃ x, x = w1 := ⟨_, rfl⟩) | (clear tk18; go_at_call 44; refine (G5.out _).mono ?_; rintro e w1 ⟨rfl, hE⟩; (first | have hq := Ext.link0 HX.out hE | have hq := Ext.link1 HX.out hE | have hq := Ext.link2 HX.out hE | have hq := Ext.link3 HX.out hE); replace HA := Lib.hid (HA.out.ext hq); replace cHA := HA.out.c6; replace HB := Lib.hid (HB.out.ext hq); replace cHB := HB.out.c6; replace HT := Lib.hid (HT.out.ext hq); replace cHT := HT.out.c6; replace HF := Lib.hid (HF.out.ext hq); replace cHF := HF.out.c6; replace HP := Lib.hid (HP.out.ext hq); replace cHP := HP.out.c6; replace HM := Lib.hid (HM.out.ext hq); replace cHM := HM.out.c6; replace HQ := Lib.hid (HQ.out.ext hq); replace cHQ := HQ.out.c6; replace HC := Lib.hid (HC.out.ext hq); replace cHC := HC.out.c6; replace HX1 := Lib.hid (HX1.out.ext hq); replace cHX1 := HX1.out.c6; replace HX2 := Lib.hid (HX2.out.ext hq); replace cHX2 := HX2.out.c6; have HX3 := Lib.hid (Kp.new1 (Z) hE); have cHX3 := HX3.out.c6; replace HX := Lib.hid (HX.out.trans hq); clear hq hE; obtain ⟨w23, rfl⟩ : ∃ x, x = w1 := ⟨_, rfl⟩) | go_skip | go_guarded | go_step | go_upon | go_values | (simp only []))
          have ct0 : w23.cell? ⟨w3.heap.size, 0, none⟩ = some (.int .i64 T0) := by rw [← HT0.out]; exact Big.cell HT.out (by decide)
          rcases HTWO.out with rfl | ⟨rfl, hf, hq, hq0, hq1⟩
          · repeat' (first | fail | go_skip | go_guarded | go_step | go_upon | go_values | (simp only []))
            (go_ret; exact ⟨rfl, by first | exact HX.out | exact HX.out.alloc _ | exact (HX.out.alloc _).alloc _⟩)
          · repeat' (first | fail | go_skip | go_guarded | go_step | go_upon | go_values | (simp only []))
            (go_ret; exact ⟨rfl, by first | exact HX.out | exact HX.out.alloc _ | exact (HX.out.alloc _).alloc _⟩)
end Go.Proofs.Ytlifhoajamnehaa
