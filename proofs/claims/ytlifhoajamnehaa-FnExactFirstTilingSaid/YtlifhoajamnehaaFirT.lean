/- FirT: contracts of functions, and lemmas, for this seat. Conditions: as each states. -/
import Derived.Test.YtlifhoajamnehaaSrt
import Derived.Test.YtlifhoajamnehaaTilC
import Derived.Test.YtlifhoajamnehaaTilF
import Derived.Test.YtlifhoajamnehaaOff
set_option linter.unusedVariables false
set_option maxRecDepth 100000
set_option maxHeartbeats 4000000
namespace Go.Proofs.Ytlifhoajamnehaa
open Go Go.RowKit Instr
theorem values_n (a : Option Addr) (len cap : Nat) (w : World) :
    Calls Try.prog 127 #[.slice a len cap] w fun e w' => e = .returned (.func (.func 161) #[] #[.pointer (some ⟨w.heap.size, 0, none⟩)]) ∧ w' = w.alloc (.cells #[.slice a len cap] 44) := by
  go_enter Try.func127, Try.ntmps127
  go_wp2
  go_ret
  exact ⟨rfl, rfl⟩
theorem collect_n (Bs : Nat) (v : Value) (D : List Nat) (hl : D.length ≤ 1000) (w : World) (hBs : Bs < w.heap.size) (hc : w.cell? ⟨Bs, 0, none⟩ = some v) (hI : Rds w.heap.size w v D) :
    Calls Try.prog 159 #[.func (.func 161) #[] #[.pointer (some ⟨Bs, 0, none⟩)]] w fun e w' => ∃ u, e = .returned u ∧ Ext w w' ∧ w'.ownsRow w.heap.size 3 1 u D.length (ints D) := by
  have H := Lib.hid (appendSeq_n Bs v D hl w hBs hc hI)
  clear hc hI
  go_enter Try.func159, Try.ntmps159
  go_wp2_with (go_at_call 167; refine H.out.mono ?_; rintro e w1 ⟨u, rfl, hE, ho⟩; have HO := Lib.hid ho; clear ho)
  go_returns
  exact ⟨_, rfl, hE, HO.out⟩
theorem sorted_n (Bs : Nat) (v : Value) (D : List Nat) (hl : D.length ≤ 1000) (w : World) (hBs : Bs < w.heap.size) (hc : w.cell? ⟨Bs, 0, none⟩ = some v) (hI : Rds w.heap.size w v D) :
    Calls Try.prog 126 #[.func (.func 161) #[] #[.pointer (some ⟨Bs, 0, none⟩)]] w fun e w' => ∃ u, e = .returned u ∧ Ext w w' ∧ w'.ownsRow w.heap.size 3 1 u D.length (ints (srt D)) := by
  have H := Lib.hid (collect_n Bs v D hl w hBs hc hI)
  clear hc hI
  have HS := Lib.hid (fun B v w hB ho => sort_n D hl B v w hB ho)
  go_enter Try.func126, Try.ntmps126
  go_wp2_with (first | (go_at_call 159; refine H.out.mono ?_; rintro e w1 ⟨u, rfl, hE, ho⟩; have HO := Lib.hid ho; clear ho; have HX := Lib.hid hE; clear hE; obtain ⟨wa, rfl⟩ : ∃ x, x = w1 := ⟨_, rfl⟩) | (go_at_call 160; refine (HS.out _ _ _ HX.out.size HO.out).mono ?_; rintro e w2 ⟨rfl, hb, ho⟩; have HP := Lib.hid ho; have HB := Lib.hid hb; clear ho hb))
  go_returns
  exact ⟨_, rfl, .of (Below.trans HX.out.below HB.out), HP.out⟩
theorem isNaNI_n (a : Int) (w : World) : Calls Try.prog 170 #[.int .i64 a] w fun e w' => e = .returned (.bool false) ∧ w = w' := by
  go_enter Try.func170, Try.ntmps170
  go_wp2
  go_returns
  exact ⟨by simp, rfl⟩
theorem compareI_lt (a b : Nat) (h : a < b) (w : World) : Calls Try.prog 162 #[.int .i64 (a : Int), .int .i64 (b : Int)] w fun e w' => e = .returned (.int .i64 (-1)) ∧ w = w' := by
  have hd : decide ((a : Int) < b) = true := by simp; omega
  go_enter Try.func162, Try.ntmps162
  go_wp2_with (go_at_call 170; refine (isNaNI_n _ _).mono ?_; rintro e w' ⟨rfl, rfl⟩)
  go_returns
  exact ⟨rfl, rfl⟩
theorem compareI_gt (a b : Nat) (h : b < a) (w : World) : Calls Try.prog 162 #[.int .i64 (a : Int), .int .i64 (b : Int)] w fun e w' => e = .returned (.int .i64 1) ∧ w = w' := by
  have hd : decide ((a : Int) < b) = false := by simp; omega
  have hd2 : decide ((b : Int) < a) = true := by simp; omega
  go_enter Try.func162, Try.ntmps162
  go_wp2_with (go_at_call 170; refine (isNaNI_n _ _).mono ?_; rintro e w' ⟨rfl, rfl⟩)
  go_returns
  exact ⟨rfl, rfl⟩
theorem compareI_eq (a : Nat) (w : World) : Calls Try.prog 162 #[.int .i64 (a : Int), .int .i64 (a : Int)] w fun e w' => e = .returned (.int .i64 0) ∧ w = w' := by
  go_enter Try.func162, Try.ntmps162
  go_wp2_with (go_at_call 170; refine (isNaNI_n _ _).mono ?_; rintro e w' ⟨rfl, rfl⟩)
  go_returns
  exact ⟨rfl, rfl⟩
theorem cmpN_at {A B : List Nat} {k a b : Nat} (ha : A[k]? = some a) (hb : B[k]? = some b) : cmpN (A.drop k) (B.drop k) = if a < b then -1 else if b < a then 1 else cmpN (A.drop (k + 1)) (B.drop (k + 1)) := by
  obtain ⟨h1, h2⟩ := List.getElem?_eq_some_iff.1 ha
  obtain ⟨h3, h4⟩ := List.getElem?_eq_some_iff.1 hb
  rw [List.drop_eq_getElem_cons h1, List.drop_eq_getElem_cons h3, cmpN, h2, h4]
theorem compare_n (A B : List Nat) (BA BB : Nat) (v u : Value) (w : World) (hA : w.ownsRow BA 3 1 v A.length (ints A)) (hB : w.ownsRow BB 3 1 u B.length (ints B)) (hla : A.length ≤ 1000) (hlb : B.length ≤ 1000) :
    Calls Try.prog 128 #[v, u] w fun e w' => e = .returned (.int .i64 (cmpN A B)) ∧ w' = w := by
  obtain ⟨ao, cap, rfl, hsa⟩ := own_shape hA
  obtain ⟨bo, cbp, rfl, hsb⟩ := own_shape hB
  have HA := Lib.hid hA
  have HB := Lib.hid hB
  clear hA hB
  go_enter Try.func128, Try.ntmps128
  go_wp2
  go_loopw [11] (fun i wr => ∃ k : Nat, k ≤ A.length ∧ k ≤ B.length ∧ i = .int .i64 (k : Int) ∧ wr = w ∧ cmpN A B = cmpN (A.drop k) (B.drop k)) (fun i _ => A.length - (intOf i).toNat)
  case atStart => exact ⟨0, Nat.zero_le _, Nat.zero_le _, rfl, rfl, rfl⟩
  case round =>
    obtain ⟨k, hk, hkb, rfl, rfl, hcm⟩ := hrel
    obtain ⟨wo, rfl⟩ : ∃ wo : World, wo = wr := ⟨_, rfl⟩
    by_cases hlt : k < A.length
    · obtain ⟨ab, rfl, _, hab⟩ := hsa (by omega)
      obtain ⟨a, ha⟩ : ∃ a, A[k]? = some a := ⟨A[k], List.getElem?_eq_getElem hlt⟩
      have c1 := (HA.out.cellAt k (by omega)).trans (ints_get A k a ha)
      by_cases hltb : k < B.length
      · obtain ⟨bb, rfl, _, hbb⟩ := hsb (by omega)
        obtain ⟨b, hb⟩ : ∃ b, B[k]? = some b := ⟨B[k], List.getElem?_eq_getElem hltb⟩
        have c2 := (HB.out.cellAt k (by omega)).trans (ints_get B k b hb)
        rw [cmpN_at ha hb] at hcm
        clear ha hb
        by_cases h1 : a < b
        · rw [if_pos h1] at hcm
          have HC := Lib.hid (fun w => compareI_lt a b h1 w)
          have HM := Lib.hid hcm
          clear hcm h1
          go_wp2_with (go_at_call 162; refine (HC.out _).mono ?_; rintro e w' ⟨rfl, rfl⟩)
          go_returns
          exact ⟨by rw [HM.out]; rfl, rfl⟩
        · rw [if_neg h1] at hcm
          by_cases h2 : b < a
          · rw [if_pos h2] at hcm
            have HC := Lib.hid (fun w => compareI_gt a b h2 w)
            have HM := Lib.hid hcm
            clear hcm h1 h2
            go_wp2_with (go_at_call 162; refine (HC.out _).mono ?_; rintro e w' ⟨rfl, rfl⟩)
            go_returns
            exact ⟨by rw [HM.out]; rfl, rfl⟩
          · rw [if_neg h2] at hcm
            obtain rfl : a = b := by omega
            have HC := Lib.hid (fun w => compareI_eq a w)
            have HM := Lib.hid hcm
            clear hcm h1 h2
            go_wp2_with (go_at_call 162; refine (HC.out _).mono ?_; rintro e w' ⟨rfl, rfl⟩)
            refine ⟨⟨k + 1, by omega, by omega, by go_num, trivial, HM.out⟩, by simp [intOf]; omega⟩
      · obtain rfl : k = B.length := by omega
        have HM := Lib.hid (show cmpN A B = 1 by rw [hcm, List.drop_length, List.drop_eq_getElem_cons hlt, cmpN])
        clear hcm ha
        go_wp2
        go_returns
        exact ⟨by rw [HM.out]; rfl, rfl⟩
    · obtain rfl : k = A.length := by omega
      rw [List.drop_length] at hcm
      by_cases hltb : A.length < B.length
      · have HM := Lib.hid (show cmpN A B = -1 by rw [hcm, List.drop_eq_getElem_cons hltb, cmpN])
        clear hcm
        go_wp2
        go_returns
        exact ⟨by rw [HM.out]; rfl, rfl⟩
      · have HM := Lib.hid (show cmpN A B = 0 by rw [hcm, List.drop_eq_nil_of_le (by omega), cmpN])
        clear hcm
        go_wp2
        go_returns
        exact ⟨by rw [HM.out]; rfl, rfl⟩
end Go.Proofs.Ytlifhoajamnehaa
