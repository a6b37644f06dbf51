/-
  slices.Sort over a slice of numbers of one's own. (Printed by a program of this project's.)
-/
import Derived.Test.YtchnllpegfbleaaGreatSortT
import Derived.Shelf.Slices.In.SortNone
namespace Go.Proofs.YtchnllpegfbleaaGreat
set_option linter.unusedSimpArgs false
set_option linter.unusedVariables false
set_option maxRecDepth 100000
open Go.RowKit
open Go.Sort
def lays189_ren : Go.Shelf.Ren := ⟨fun | 189 => 226 | 125 => 240 | 257 => 239 | 128 => 253 | 129 => 254 | 294 => 244 | 295 => 245 | 296 => 246 | 297 => 247 | 298 => 248 | 299 => 249 | 216 => 250 | 300 => 251 | 301 => 252 | 328 => 256 | 329 => 257 | 330 => 258 | 331 => 259 | 332 => 260 | 215 => 261 | 343 => 263 | n => n, fun | 28 => 49 | 3 => 3 | 46 => 232 | 0 => 0 | 51 => 245 | 53 => 247 | 4 => 4 | 183 => 237 | 182 => 236 | 131 => 242 | 5 => 5 | 9 => 9 | 218 => 248 | 222 => 252 | 228 => 255 | 229 => 256 | n => n, fun | n => n⟩
theorem lays189 : Go.Proofs.Lays.n189 Tryz.prog lays189_ren where
  mixed := by kernel_rfl
  f125 := Tryz.func240.trans (congrArg some (by kernel_rfl))
  f128 := Tryz.func253.trans (congrArg some (by kernel_rfl))
  f129 := Tryz.func254.trans (congrArg some (by kernel_rfl))
  f189 := Tryz.func226.trans (congrArg some (by kernel_rfl))
  f215 := Tryz.func261.trans (congrArg some (by kernel_rfl))
  f216 := Tryz.func250.trans (congrArg some (by kernel_rfl))
  f257 := Tryz.func239.trans (congrArg some (by kernel_rfl))
  f294 := Tryz.func244.trans (congrArg some (by kernel_rfl))
  f295 := Tryz.func245.trans (congrArg some (by kernel_rfl))
  f296 := Tryz.func246.trans (congrArg some (by kernel_rfl))
  f297 := Tryz.func247.trans (congrArg some (by kernel_rfl))
  f298 := Tryz.func248.trans (congrArg some (by kernel_rfl))
  f299 := Tryz.func249.trans (congrArg some (by kernel_rfl))
  f300 := Tryz.func251.trans (congrArg some (by kernel_rfl))
  f301 := Tryz.func252.trans (congrArg some (by kernel_rfl))
  f328 := Tryz.func256.trans (congrArg some (by kernel_rfl))
  f329 := Tryz.func257.trans (congrArg some (by kernel_rfl))
  f330 := Tryz.func258.trans (congrArg some (by kernel_rfl))
  f331 := Tryz.func259.trans (congrArg some (by kernel_rfl))
  f332 := Tryz.func260.trans (congrArg some (by kernel_rfl))
  f343 := Tryz.func263.trans (congrArg some (by kernel_rfl))
  t0 := Tryz.underlying0
  a0 := Tryz.isAgg0
  z0 := Tryz.sizeOf0
  v0 := Tryz.zeroValue0
  t3 := Tryz.underlying3
  a3 := Tryz.isAgg3
  z3 := Tryz.sizeOf3
  v3 := Tryz.zeroValue3
  t4 := Tryz.underlying4
  a4 := Tryz.isAgg4
  z4 := Tryz.sizeOf4
  v4 := Tryz.zeroValue4
  t5 := Tryz.underlying5
  a5 := Tryz.isAgg5
  z5 := Tryz.sizeOf5
  v5 := Tryz.zeroValue5
  t9 := Tryz.underlying9
  a9 := Tryz.isAgg9
  z9 := Tryz.sizeOf9
  v9 := Tryz.zeroValue9
  t28 := Tryz.underlying49
  a28 := Tryz.isAgg49
  z28 := Tryz.sizeOf49
  v28 := Tryz.zeroValue49
  t46 := Tryz.underlying232
  a46 := Tryz.isAgg232
  z46 := Tryz.sizeOf232
  v46 := Tryz.zeroValue232
  t51 := Tryz.underlying245
  a51 := Tryz.isAgg245
  z51 := Tryz.sizeOf245
  v51 := Tryz.zeroValue245
  t53 := Tryz.underlying247
  a53 := Tryz.isAgg247
  z53 := Tryz.sizeOf247
  v53 := Tryz.zeroValue247
  t131 := Tryz.underlying242
  a131 := Tryz.isAgg242
  z131 := Tryz.sizeOf242
  v131 := Tryz.zeroValue242
  t182 := Tryz.underlying236
  a182 := Tryz.isAgg236
  z182 := Tryz.sizeOf236
  v182 := Tryz.zeroValue236
  t183 := Tryz.underlying237
  a183 := Tryz.isAgg237
  z183 := Tryz.sizeOf237
  v183 := Tryz.zeroValue237
  t218 := Tryz.underlying248
  a218 := Tryz.isAgg248
  z218 := Tryz.sizeOf248
  v218 := Tryz.zeroValue248
  t222 := Tryz.underlying252
  a222 := Tryz.isAgg252
  z222 := Tryz.sizeOf252
  v222 := Tryz.zeroValue252
  t228 := Tryz.underlying255
  a228 := Tryz.isAgg255
  z228 := Tryz.sizeOf255
  v228 := Tryz.zeroValue255
  t229 := Tryz.underlying256
  a229 := Tryz.isAgg256
  z229 := Tryz.sizeOf256
  v229 := Tryz.zeroValue256


theorem SortOwn {w0 W : World} {rs : List Res} {v : Value} {xs : List Int} {fp : List Nat} (h : St w0 W (Res.own v xs fp :: rs)) (hn : xs.length ≤ 1000000) :
    Calls Tryz.prog 226 #[v] W fun e w' => e = .returned (.tuple #[]) ∧ ∃ fp', St w0 w' (Res.own v (sortI xs) fp' :: rs) := by
  have hsl := own_Sl (h.get 0 rfl)
  have hwr := (h.get 0 rfl).2
  obtain ⟨ao, cap, rfl, h1, h2, h3⟩ := hsl
  rcases h3 with ⟨rfl, rfl⟩ | ⟨b, off, f, hne, rfl, rfl, hb, h3⟩
  · refine (Any.slices_Sort_int_none lays189 ao cap W).mono ?_
    rintro e w' ⟨he, rfl⟩
    refine ⟨he, [], ?_⟩
    rw [show sortI [] = [] from List.eq_nil_of_length_eq_zero (sortI_len [])]
    exact h
  · obtain ⟨cells, he, hr⟩ := Elems.of_at off h3
    obtain ⟨rfl, rfl, h64⟩ := he.ints_inv
    obtain ⟨C, e, hC⟩ := hwr b (by simp)
    have hdr : Holds (Value.int .i64) W b off xs.toArray := by
      intro j hj
      have hj' : j < xs.length := by simpa using hj
      refine ⟨?_, by simp [World.frozen?, hC]⟩
      rw [hr j (I xs[j]) (by simp [hj'])]
      simp [hj']
    refine (Any.slices_Sort_int lays189 b off cap xs W hdr hb (by omega)).mono ?_
    rintro e' w' ⟨he', n, os, rfl⟩
    obtain ⟨fp', hst⟩ := h.sorted hne (sortI_len xs) (fun y hy => (sortI_perm xs).mem_iff.1 hy) n os
    exact ⟨he', fp', hst⟩

end Go.Proofs.YtchnllpegfbleaaGreat
