/- Srt: contracts of functions, and lemmas, for this seat. Conditions: as each states. -/
import Derived.Test.YtlifhoajamnehaaSeq
import Derived.Shelf.SortM.Plain
import Derived.Shelf.SortM.SortNone
import Derived.Lib.SlKeysI
set_option linter.unusedVariables false
set_option maxRecDepth 100000
set_option maxHeartbeats 1000000
namespace Go.Proofs.Ytlifhoajamnehaa
open Go Go.RowKit Instr Go.Shelf
/-- slices.Sort, laid in plain words -/
def SrI_ren : Go.Shelf.Ren := ⟨fun | 5 => 160 | 7 => 168 | 8 => 169 | 10 => 172 | 11 => 173 | 12 => 174 | 13 => 175 | 14 => 176 | 15 => 177 | 16 => 178 | 17 => 179 | 18 => 180 | 19 => 181 | 20 => 182 | 30 => 183 | 31 => 184 | 32 => 185 | 33 => 186 | 34 => 187 | 35 => 170 | 40 => 188 | n => n, fun | 0 => 0 | 3 => 3 | 4 => 4 | 5 => 5 | 9 => 9 | 22 => 44 | 23 => 44 | 25 => 3 | 32 => 145 | 35 => 151 | 36 => 152 | 41 => 31 | 44 => 158 | 46 => 77 | 53 => 159 | 57 => 163 | 63 => 165 | 64 => 62 | n => n, fun n => n⟩
theorem SrI : Go.Proofs.SlLaysM.n5 Try.prog SrI_ren := {
  mixed := by kernel_rfl
  f5 := ⟨Try.f160.name, by decide, Try.func160.trans (congrArg some (by kernel_rfl))⟩
  f7 := ⟨Try.f168.name, by decide, Try.func168.trans (congrArg some (by kernel_rfl))⟩
  f8 := Try.func169.trans (congrArg some (by kernel_rfl))
  f10 := ⟨Try.f172.name, by decide, Try.func172.trans (congrArg some (by kernel_rfl))⟩
  f11 := ⟨Try.f173.name, by decide, Try.func173.trans (congrArg some (by kernel_rfl))⟩
  f12 := ⟨Try.f174.name, by decide, Try.func174.trans (congrArg some (by kernel_rfl))⟩
  f13 := ⟨Try.f175.name, by decide, Try.func175.trans (congrArg some (by kernel_rfl))⟩
  f14 := ⟨Try.f176.name, by decide, Try.func176.trans (congrArg some (by kernel_rfl))⟩
  f15 := ⟨Try.f177.name, by decide, Try.func177.trans (congrArg some (by kernel_rfl))⟩
  f16 := ⟨Try.f178.name, by decide, Try.func178.trans (congrArg some (by kernel_rfl))⟩
  f17 := ⟨Try.f179.name, by decide, Try.func179.trans (congrArg some (by kernel_rfl))⟩
  f18 := ⟨Try.f180.name, by decide, Try.func180.trans (congrArg some (by kernel_rfl))⟩
  f19 := Try.func181.trans (congrArg some (by kernel_rfl))
  f20 := Try.func182.trans (congrArg some (by kernel_rfl))
  f30 := ⟨Try.f183.name, by decide, Try.func183.trans (congrArg some (by kernel_rfl))⟩
  f31 := Try.func184.trans (congrArg some (by kernel_rfl))
  f32 := Try.func185.trans (congrArg some (by kernel_rfl))
  f33 := ⟨Try.f186.name, by decide, Try.func186.trans (congrArg some (by kernel_rfl))⟩
  f34 := ⟨Try.f187.name, by decide, Try.func187.trans (congrArg some (by kernel_rfl))⟩
  f35 := ⟨Try.f170.name, by decide, Try.func170.trans (congrArg some (by kernel_rfl))⟩
  f40 := ⟨Try.f188.name, by decide, Try.func188.trans (congrArg some (by kernel_rfl))⟩
  t0 := Try.underlying0
  a0 := Try.isAgg0
  z0 := Try.sizeOf0
  v0 := Try.zeroValue0
  t3 := Try.underlying3
  a3 := Try.isAgg3
  z3 := Try.sizeOf3
  v3 := Try.zeroValue3
  t4 := Try.underlying4
  a4 := Try.isAgg4
  z4 := Try.sizeOf4
  v4 := Try.zeroValue4
  t5 := Try.underlying5
  a5 := Try.isAgg5
  z5 := Try.sizeOf5
  v5 := Try.zeroValue5
  t9 := Try.underlying9
  a9 := Try.isAgg9
  z9 := Try.sizeOf9
  v9 := Try.zeroValue9
  t22 := Try.underlying44
  a22 := Try.isAgg44
  z22 := Try.sizeOf44
  v22 := Try.zeroValue44
  t23 := Try.underlying44
  a23 := Try.isAgg44
  z23 := Try.sizeOf44
  v23 := Try.zeroValue44
  t25 := Try.underlying3
  a25 := Try.isAgg3
  z25 := Try.sizeOf3
  v25 := Try.zeroValue3
  t32 := Try.underlying145
  a32 := Try.isAgg145
  z32 := Try.sizeOf145
  v32 := Try.zeroValue145
  t35 := Try.underlying151
  a35 := Try.isAgg151
  z35 := Try.sizeOf151
  v35 := Try.zeroValue151
  t36 := Try.underlying152
  a36 := Try.isAgg152
  z36 := Try.sizeOf152
  v36 := Try.zeroValue152
  t41 := Try.underlying31
  a41 := Try.isAgg31
  z41 := Try.sizeOf31
  v41 := Try.zeroValue31
  t44 := Try.underlying158
  a44 := Try.isAgg158
  z44 := Try.sizeOf158
  v44 := Try.zeroValue158
  t46 := Try.underlying77
  a46 := Try.isAgg77
  z46 := Try.sizeOf77
  v46 := Try.zeroValue77
  t53 := Try.underlying159
  a53 := Try.isAgg159
  z53 := Try.sizeOf159
  v53 := Try.zeroValue159
  t57 := Try.underlying163
  a57 := Try.isAgg163
  z57 := Try.sizeOf163
  v57 := Try.zeroValue163
  t63 := Try.underlying165
  a63 := Try.isAgg165
  z63 := Try.sizeOf165
  v63 := Try.zeroValue165
  t64 := Try.underlying62
  a64 := Try.isAgg62
  z64 := Try.sizeOf62
  v64 := Try.zeroValue62
}
theorem srt_int (L : List Nat) : ((L.map fun k : Nat => (k : Int)).mergeSort fun x y => decide (x ≤ y)) = (srt L).map fun k : Nat => (k : Int) := by
  unfold srt
  rw [← List.map_mergeSort (r := fun a b => decide (a ≤ b))]
  intro a _ b _
  rw [decide_eq_decide]
  omega
theorem ints_int (L : List Nat) : ints L = (L.map fun k : Nat => (k : Int)).map (Value.int .i64) := by
  unfold ints
  rw [List.map_map]
  rfl
/-- slices.Sort of a row of one's own -/
theorem sort_n (L : List Nat) (hl : L.length ≤ 1000) (B : Nat) (v : Value) (w : World) (hB : B ≤ w.heap.size) (ho : w.ownsRow B 3 1 v L.length (ints L)) :
    Calls Try.prog 160 #[v] w fun e w' => e = .returned (.tuple #[]) ∧ Below B w w' ∧ w'.ownsRow B 3 1 v L.length (ints (srt L)) := by
  rcases ho.2 with ⟨rfl, hz⟩ | ⟨gb, cap, cur, rfl, hbase, hgb, r1, r2, r3, r4⟩
  · refine (Go.Proofs.AnyM.slices_Sort_int_none SrI none 0 w).mono ?_
    rintro e w' ⟨rfl, rfl⟩
    obtain rfl := List.eq_nil_of_length_eq_zero hz
    exact ⟨rfl, Below.refl _ _, by rw [show srt [] = [] by simp [srt]]; exact ho⟩
  · have hs : L.length = (L.map fun k : Nat => (k : Int)).length := (List.length_map _).symm
    have hH : Go.Sort.Holds (Value.int .i64) w gb 0 (L.map fun k : Nat => (k : Int)).toArray := Go.Proofs.holds_of_block_i hgb (by rw [← hs, ← ints_int]; simpa using r4)
    have hgl : gb < w.heap.size := (Array.getElem?_eq_some_iff.1 hgb).1
    have hc := Go.Proofs.AnyM.slices_Sort_int SrI gb 0 cap (L.map fun k : Nat => (k : Int)) w hH hgl (by rw [← hs]; omega)
    rw [← hs, srt_int] at hc
    refine hc.mono ?_
    rintro e w' ⟨rfl, nn, os, rfl⟩
    refine ⟨rfl, (Below.refl B w).grown (Go.Proofs.grownBy_sorted_i _) hB (fun j hj => by cases hj; exact hbase), ?_⟩
    have hp := Go.Proofs.ownsRow_sorted_i (n := nn) (os := os) (ss := L.map fun k : Nat => (k : Int)) (ts := (srt L).map fun k : Nat => (k : Int)) (by rw [List.length_map, List.length_map]; exact (srt_perm L).length_eq) hbase hgb (by rw [← hs]; exact r1) r2 r3
    rw [← hs] at hp
    rw [ints_int (srt L)]
    exact hp
end Go.Proofs.Ytlifhoajamnehaa
