/- TilF: contracts of functions, and lemmas, for this seat. Conditions: as each states. -/
import Derived.Test.YtlifhoajamnehaaTilL
set_option linter.unusedVariables false
set_option maxRecDepth 100000
set_option maxHeartbeats 1000000
namespace Go.Proofs.Ytlifhoajamnehaa
open Go Go.RowKit
/-! the first tiling -/
/-- stamps of a list, all apart, make up z -/
def Til (f : Nat → Nat) : List Nat → Nat → Prop
  | [], z => z = 0
  | k :: S, z => prt (f k) z = true ∧ Til f S (mns z (f k))
theorem til_swap {f : Nat → Nat} (hf : ∀ k, f k < 68719476736) (a b : Nat) (S : List Nat) (z : Nat) (h : Til f (a :: b :: S) z) : Til f (b :: a :: S) z := by
  obtain ⟨h1, h2, h3⟩ := h
  rw [prt_mns _ _ (hf b), Bool.and_eq_true] at h2
  refine ⟨h2.1, ?_, ?_⟩
  · rw [prt_mns _ _ (hf a), h1, ap2_comm, h2.2]; rfl
  · rw [mns_comm]; exact h3
theorem til_perm {f : Nat → Nat} (hf : ∀ k, f k < 68719476736) {S T : List Nat} (h : S.Perm T) : ∀ z, Til f S z → Til f T z := by
  induction h with
  | nil => exact fun z h => h
  | cons a _ ih => exact fun z h => ⟨h.1, ih _ h.2⟩
  | swap a b l => exact fun z h => til_swap hf b a l z h
  | trans _ _ i1 i2 => exact fun z h => i2 z (i1 z h)
theorem til_has {f : Nat → Nat} : ∀ (S : List Nat) (z q : Nat), q < 36 → z.testBit q = true → Til f S z → ∃ k, k ∈ S ∧ (f k).testBit q = true
  | [], z, q, hq, hz, h => by rw [show z = 0 from h, Nat.zero_testBit] at hz; cases hz
  | k :: S, z, q, hq, hz, h => by
    cases hb : (f k).testBit q
    · obtain ⟨j, hj, hjq⟩ := til_has S _ q hq (by rw [testBit_mns z _ q hq, hz, hb]; rfl) h.2
      exact ⟨j, List.mem_cons_of_mem _ hj, hjq⟩
    · exact ⟨k, List.mem_cons_self, hb⟩
theorem til_0 {f : Nat → Nat} (hf : ∀ k, f k < 68719476736) (h0 : ∀ k, f k ≠ 0) : ∀ S, Til f S 0 → S = []
  | [], _ => rfl
  | k :: S, h => by have := h.1; rw [prt_0 (hf k) (h0 k)] at this; cases this
theorem til_apart {f : Nat → Nat} (hf : ∀ k, f k < 68719476736) (a : Nat) : ∀ (S : List Nat) (z : Nat), Til f S (mns z a) → ∀ k, k ∈ S → ap2 (f k) a = true
  | [], _, _, k, hk => by cases hk
  | b :: S, z, h, k, hk => by
    rcases List.mem_cons.1 hk with rfl | hk
    · have := h.1
      rw [prt_mns _ _ (hf k), Bool.and_eq_true] at this
      exact this.2
    · refine til_apart hf a S (mns z (f b)) ?_ k hk
      rw [mns_comm]; exact h.2
theorem til_nodup {f : Nat → Nat} (hf : ∀ k, f k < 68719476736) (h0 : ∀ k, f k ≠ 0) : ∀ (S : List Nat) (z : Nat), Til f S z → S.Nodup
  | [], _, _ => List.nodup_nil
  | a :: S, z, h => List.nodup_cons.2 ⟨(fun hm => by
      have := til_apart hf (f a) S z h.2 a hm
      rw [ap2_self (h0 a)] at this
      exact absurd this (by decide)), til_nodup hf h0 S _ h.2⟩
theorem tI_til {f : Nat → Nat} {L : List Nat} : ∀ (N z : Nat) (D T : List Nat), T ∈ tI f L N z D → ∃ S, T = D ++ S ∧ Til f S z ∧ ∀ k, k ∈ S → k ∈ L
  | 0, z, D, T, h => by rw [tI] at h; cases h
  | N + 1, z, D, T, h => by
    by_cases hz : z = 0
    · subst hz
      rw [tI_0] at h
      obtain rfl := List.mem_singleton.1 h
      exact ⟨[], (List.append_nil _).symm, rfl, fun k hk => by cases hk⟩
    · rw [tI_s f L N hz] at h
      obtain ⟨k, hk, hT⟩ := List.mem_flatMap.1 h
      unfold tG at hT
      split at hT
      · rename_i hc
        rw [Bool.and_eq_true] at hc
        obtain ⟨S, rfl, hS, hL⟩ := tI_til N _ _ T hT
        refine ⟨k :: S, by simp, ⟨hc.2, hS⟩, fun j hj => ?_⟩
        rcases List.mem_cons.1 hj with rfl | hj
        · exact hk
        · exact hL j hj
      · cases hT
theorem til_tI {f : Nat → Nat} (hf : ∀ k, f k < 68719476736) (h0 : ∀ k, f k ≠ 0) {L : List Nat} : ∀ (N z : Nat) (D S : List Nat), cnt z < N → z < 68719476736 → Til f S z → (∀ k, k ∈ S → k ∈ L) → ∃ S', S'.Perm S ∧ D ++ S' ∈ tI f L N z D
  | 0, z, D, S, h, _, _, _ => absurd h (Nat.not_lt_zero _)
  | N + 1, z, D, S, hN, hz, hS, hL => by
    by_cases h : z = 0
    · subst h
      obtain rfl := til_0 hf h0 S hS
      exact ⟨[], List.Perm.refl _, by rw [tI_0, List.append_nil]; exact List.mem_singleton.2 rfl⟩
    · obtain ⟨q, hq0, hq, hqz⟩ := fl_first0 hz h
      have hfq : fstB z = q := by unfold fstB; rw [hq0]; rfl
      obtain ⟨k, hk, hkq⟩ := til_has S z q hq hqz hS
      have hp := List.perm_cons_erase hk
      have hS2 := til_perm hf hp z hS
      have hc := cnt_less0 (hf k) (h0 k) hS2.1
      obtain ⟨S', hS', hm⟩ := til_tI hf h0 (L := L) N (mns z (f k)) (D ++ [k]) (S.erase k) (by omega) (mns_lt _ hz) hS2.2 (fun j hj => hL j (List.mem_of_mem_erase hj))
      refine ⟨k :: S', (hS'.cons k).trans hp.symm, ?_⟩
      rw [tI_s f L N h]
      refine List.mem_flatMap.2 ⟨k, hL k hk, ?_⟩
      rw [tG_t (by rw [hfq]; exact hkq) hS2.1]
      simpa using hm
theorem tl_til {f : Nat → Nat} : ∀ (O : List Nat) (z : Nat) (D T : List Nat), T ∈ tl f O z D → ∃ S, T = D ++ S ∧ S.Sublist O ∧ Til f S z
  | O, 0, D, T, h => by
    rw [tl_0] at h
    obtain rfl := List.mem_singleton.1 h
    exact ⟨[], (List.append_nil _).symm, List.nil_sublist _, rfl⟩
  | [], z + 1, D, T, h => by rw [tl_nil f (by omega)] at h; cases h
  | k :: O, z + 1, D, T, h => by
    rw [tl_cons f (by omega)] at h
    rcases List.mem_append.1 h with h | h
    · split at h
      · rename_i hc
        obtain ⟨S, rfl, h1, h2⟩ := tl_til O _ _ T h
        exact ⟨k :: S, by simp, h1.cons_cons k, hc, h2⟩
      · cases h
    · obtain ⟨S, rfl, h1, h2⟩ := tl_til O _ _ T h
      exact ⟨S, rfl, h1.cons k, h2⟩
theorem til_tl {f : Nat → Nat} (hf : ∀ k, f k < 68719476736) (h0 : ∀ k, f k ≠ 0) : ∀ (O : List Nat) (z : Nat) (D S : List Nat), S.Sublist O → Til f S z → D ++ S ∈ tl f O z D
  | O, 0, D, S, _, h => by
    obtain rfl := til_0 hf h0 S h
    rw [tl_0, List.append_nil]; exact List.mem_singleton.2 rfl
  | [], z + 1, D, S, hs, h => by
    obtain rfl := List.sublist_nil.1 hs
    exact absurd h (by show ¬ z + 1 = 0; omega)
  | k :: O, z + 1, D, S, hs, h => by
    rw [tl_cons f (by omega)]
    cases hs with
    | cons _ hs => exact List.mem_append_right _ (til_tl hf h0 O _ D S hs h)
    | cons_cons _ hs =>
      rename_i S
      refine List.mem_append_left _ ?_
      rw [if_pos h.1]
      have := til_tl hf h0 O _ (D ++ [k]) S hs h.2
      simpa using this
/-- as Go compares two slices -/
def cmpN : List Nat → List Nat → Int
  | [], [] => 0
  | [], _ :: _ => -1
  | _ :: _, [] => 1
  | a :: A, b :: B => if a < b then -1 else if b < a then 1 else cmpN A B
theorem cmpN_pre (A B : List Nat) : ∀ D : List Nat, cmpN (D ++ A) (D ++ B) = cmpN A B
  | [] => rfl
  | d :: D => by
    rw [List.cons_append, List.cons_append, cmpN, if_neg (Nat.lt_irrefl d), if_neg (Nat.lt_irrefl d)]
    exact cmpN_pre A B D
theorem cmpN_self (A : List Nat) : cmpN A A = 0 := by have := cmpN_pre [] [] A; rw [List.append_nil] at this; exact this
theorem cmpN_trans : ∀ (A B C : List Nat), cmpN A B < 0 → cmpN B C < 0 → cmpN A C < 0
  | [], [], C, h, _ => by rw [cmpN] at h; omega
  | [], b :: B, [], _, h => by rw [cmpN] at h; omega
  | [], b :: B, c :: C, _, _ => by rw [cmpN]; omega
  | a :: A, [], C, h, _ => by rw [cmpN] at h; omega
  | a :: A, b :: B, [], _, h => by rw [cmpN] at h; omega
  | a :: A, b :: B, c :: C, h1, h2 => by
    rw [cmpN] at h1 h2 ⊢
    have ih := cmpN_trans A B C
    by_cases e1 : a < b
    · by_cases e2 : b < c
      · rw [if_pos (by omega)]; omega
      · rw [if_neg e2] at h2
        by_cases e3 : c < b
        · rw [if_pos e3] at h2; omega
        · rw [if_pos (by omega)]; omega
    · rw [if_neg e1] at h1
      by_cases e4 : b < a
      · rw [if_pos e4] at h1; omega
      · rw [if_neg e4] at h1
        by_cases e2 : b < c
        · rw [if_pos (by omega)]; omega
        · rw [if_neg e2] at h2
          by_cases e3 : c < b
          · rw [if_pos e3] at h2; omega
          · rw [if_neg e3] at h2
            rw [if_neg (by omega), if_neg (by omega)]
            exact ih h1 h2
/-- the least one of those that have come -/
def Lst1 (xs : List (List Nat)) (b : Option (List Nat)) : Prop := (xs = [] ∧ b = none) ∨ ∃ y, b = some y ∧ y ∈ xs ∧ ∀ x, x ∈ xs → ¬ cmpN x y < 0
theorem lst1_0 : Lst1 [] none := .inl ⟨rfl, rfl⟩
theorem lst1_first (x : List Nat) : Lst1 [x] (some x) := .inr ⟨x, rfl, List.mem_singleton.2 rfl, fun u hu => by obtain rfl := List.mem_singleton.1 hu; rw [cmpN_self]; omega⟩
theorem lst1_new {xs : List (List Nat)} {y : List Nat} (h : Lst1 xs (some y)) (x : List Nat) (hc : cmpN x y < 0) : Lst1 (xs ++ [x]) (some x) := by
  rcases h with ⟨_, h⟩ | ⟨y', h1, h2, h3⟩
  · cases h
  · cases h1
    refine .inr ⟨x, rfl, List.mem_append_right _ (List.mem_singleton.2 rfl), fun u hu => ?_⟩
    rcases List.mem_append.1 hu with hu | hu
    · exact fun hlt => h3 u hu (cmpN_trans u x y hlt hc)
    · obtain rfl := List.mem_singleton.1 hu
      rw [cmpN_self]; omega
theorem lst1_old {xs : List (List Nat)} {y : List Nat} (h : Lst1 xs (some y)) (x : List Nat) (hc : ¬ cmpN x y < 0) : Lst1 (xs ++ [x]) (some y) := by
  rcases h with ⟨_, h⟩ | ⟨y', h1, h2, h3⟩
  · cases h
  · cases h1
    refine .inr ⟨y, rfl, List.mem_append_left _ h2, fun u hu => ?_⟩
    rcases List.mem_append.1 hu with hu | hu
    · exact h3 u hu
    · obtain rfl := List.mem_singleton.1 hu
      exact hc
theorem lst1_none {xs : List (List Nat)} (h : Lst1 xs none) : xs = [] := by
  rcases h with ⟨h, _⟩ | ⟨_, h, _⟩
  · exact h
  · cases h
/-! ascending lists -/
def Asc (L : List Nat) : Prop := L.Pairwise (· < ·)
theorem asc_sub : ∀ (O S : List Nat), Asc O → Asc S → (∀ k, k ∈ S → k ∈ O) → S.Sublist O
  | _, [], _, _, _ => List.nil_sublist _
  | [], a :: S, _, _, h => by have := h a List.mem_cons_self; cases this
  | k :: O, a :: S, hO, hS, h => by
    obtain ⟨hO1, hO2⟩ := List.pairwise_cons.1 hO
    obtain ⟨hS1, hS2⟩ := List.pairwise_cons.1 hS
    by_cases e : a = k
    · subst e
      refine List.Sublist.cons_cons a (asc_sub O S hO2 hS2 fun j hj => ?_)
      rcases List.mem_cons.1 (h j (List.mem_cons_of_mem _ hj)) with rfl | h1
      · exact absurd (hS1 _ hj) (Nat.lt_irrefl _)
      · exact h1
    · have ha : a ∈ O := by
        rcases List.mem_cons.1 (h a List.mem_cons_self) with h1 | h1
        · exact absurd h1 e
        · exact h1
      have hka := hO1 a ha
      refine List.Sublist.cons k (asc_sub O (a :: S) hO2 hS fun j hj => ?_)
      rcases List.mem_cons.1 (h j hj) with rfl | h1
      · rcases List.mem_cons.1 hj with rfl | h2
        · exact absurd hka (Nat.lt_irrefl _)
        · have := hS1 _ h2; omega
      · exact h1
theorem asc_perm {S T : List Nat} (hS : Asc S) (hT : Asc T) (h : S.Perm T) : S = T :=
  (asc_sub T S hT hS fun k hk => h.mem_iff.1 hk).eq_of_length h.length_eq
def srt (T : List Nat) : List Nat := T.mergeSort (fun a b => decide (a ≤ b))
theorem srt_perm (T : List Nat) : (srt T).Perm T := List.mergeSort_perm T _
theorem srt_asc {T : List Nat} (h : T.Nodup) : Asc (srt T) := by
  have h1 : (srt T).Pairwise (fun a b => decide (a ≤ b) = true) := List.pairwise_mergeSort (fun a b c => by simp; omega) (fun a b => by simp; omega) T
  have h2 : (srt T).Nodup := (srt_perm T).nodup_iff.2 h
  exact (h1.and h2).imp fun ⟨a, b⟩ => by simp at a; omega
theorem asc_fl (p : Nat → Bool) (k : Nat) : Asc (fl p k) := by
  unfold Asc fl
  exact List.Pairwise.filter _ List.pairwise_lt_range
/-- the head is the least -/
theorem tl_head {f : Nat → Nat} : ∀ (O : List Nat) (z : Nat) (D : List Nat), Asc O → ∀ H R, tl f O z D = H :: R → ∀ S, S ∈ tl f O z D → S = H ∨ cmpN H S < 0
  | O, 0, D, _, H, R, h, S, hS => by
    rw [tl_0] at h hS
    cases h
    exact .inl (List.mem_singleton.1 hS)
  | [], z + 1, D, _, H, R, h, S, hS => by rw [tl_nil f (by omega)] at h; cases h
  | k :: O, z + 1, D, hO, H, R, h, S, hS => by
    obtain ⟨hO1, hO2⟩ := List.pairwise_cons.1 hO
    have hall : ∀ S, S ∈ tl f O (z + 1) D → ∃ a A, S = D ++ a :: A ∧ k < a := fun S hS => by
      obtain ⟨S', rfl, h1, h2⟩ := tl_til O _ D S hS
      cases S' with
      | nil => exact absurd h2 (by show ¬ z + 1 = 0; omega)
      | cons a A => exact ⟨a, A, rfl, hO1 a (h1.subset List.mem_cons_self)⟩
    rw [tl_cons f (by omega)] at h hS
    split at h
    · rename_i hc
      rw [if_pos hc] at hS
      cases hA : tl f O (mns (z + 1) (f k)) (D ++ [k]) with
      | nil =>
        rw [hA, List.nil_append] at h hS
        exact tl_head O _ D hO2 H R h S hS
      | cons H' R' =>
        rw [hA, List.cons_append] at h
        have e : H' = H := by injection h
        subst e
        rcases List.mem_append.1 hS with h1 | h1
        · exact tl_head O _ _ hO2 H' R' hA S h1
        · obtain ⟨a, A, rfl, hka⟩ := hall S h1
          obtain ⟨X, hX, _, _⟩ := tl_til O _ (D ++ [k]) H' (by rw [hA]; exact List.mem_cons_self)
          subst hX
          refine .inr ?_
          rw [List.append_assoc, cmpN_pre]
          show cmpN (k :: X) (a :: A) < 0
          rw [cmpN, if_pos hka]; omega
    · rename_i hc
      rw [if_neg hc, List.nil_append] at hS
      rw [List.nil_append] at h
      exact tl_head O _ D hO2 H R h S hS
/-- what the program keeps is the reference's first -/
theorem first_is {f : Nat → Nat} (hf : ∀ k, f k < 68719476736) (h0 : ∀ k, f k ≠ 0) {O : List Nat} (hO : Asc O) (z : Nat) (hz : z < 68719476736) (N : Nat) (hN : cnt z < N) (b : Option (List Nat)) (h : Lst1 ((tI f O N z []).map srt) b) : b = (tl f O z []).head? := by
  have to : ∀ T, T ∈ tI f O N z [] → srt T ∈ tl f O z [] := fun T hT => by
    obtain ⟨S, e, h1, h2⟩ := tI_til N z [] T hT
    rw [List.nil_append] at e
    subst e
    have hp := srt_perm T
    have := til_tl hf h0 O z [] (srt T) (asc_sub O (srt T) hO (srt_asc (til_nodup hf h0 T z h1)) fun k hk => h2 k (hp.mem_iff.1 hk)) (til_perm hf hp.symm z h1)
    rw [List.nil_append] at this
    exact this
  have fro : ∀ S, S ∈ tl f O z [] → S ∈ (tI f O N z []).map srt := fun S hS => by
    obtain ⟨S', e, h1, h2⟩ := tl_til O z [] S hS
    rw [List.nil_append] at e
    subst e
    obtain ⟨T, hT, hm⟩ := til_tI hf h0 (L := O) N z [] S hN hz h2 fun k hk => h1.subset hk
    rw [List.nil_append] at hm
    refine List.mem_map.2 ⟨T, hm, ?_⟩
    have hn : T.Nodup := hT.nodup_iff.2 (til_nodup hf h0 S z h2)
    exact asc_perm (srt_asc hn) (hO.sublist h1) ((srt_perm T).trans hT)
  rcases h with ⟨h1, rfl⟩ | ⟨y, rfl, h2, h3⟩
  · cases ht : tl f O z [] with
    | nil => rfl
    | cons H R =>
      have := fro H (by rw [ht]; exact List.mem_cons_self)
      rw [h1] at this; cases this
  · obtain ⟨T, hT, rfl⟩ := List.mem_map.1 h2
    have hm := to T hT
    cases ht : tl f O z [] with
    | nil => rw [ht] at hm; cases hm
    | cons H R =>
      rcases tl_head O z [] hO H R ht (srt T) hm with e | e
      · rw [e]; rfl
      · exact absurd e (h3 H (fro H (by rw [ht]; exact List.mem_cons_self)))
end Go.Proofs.Ytlifhoajamnehaa
