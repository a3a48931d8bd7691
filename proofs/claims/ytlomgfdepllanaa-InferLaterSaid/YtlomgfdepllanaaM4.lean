/-
  Parts Base, CodeA, CodeB, CodeC, CodeD, CodeE, CodeF, CodeG, one behind the other: a program logic of our own, contracts of functions.
-/
import Derived.Test.YtlomgfdepllanaaM3
import Derived.Test.YtlomgfdepllanaaProg
section
/-! What is known of the types of this seat. -/
namespace Go.Proofs.Ytlomgfdepllanaa
open Go.Bv
set_option maxRecDepth 100000
noncomputable def y1 : Ty := { z := .nilFunc, size := 1, bytes := 8, agg := false, sl := none, arr := none, fs := [] }
theorem y1_ok : OKt Try.prog 1 y1 := ⟨by kernel_rfl, ⟨_, Try.underlying1, rfl, rfl, rfl, rfl, rfl, rfl, rfl⟩, fun _ => rfl, rfl⟩
noncomputable def y2 : Ty := { z := (.int .i64 0), size := 1, bytes := 8, agg := false, sl := none, arr := none, fs := [], ik := some .i64 }
theorem y2_ok : OKt Try.prog 2 y2 := ⟨by kernel_rfl, ⟨_, Try.underlying2, rfl, rfl, rfl, rfl, rfl, rfl, rfl⟩, fun _ => rfl, rfl⟩
noncomputable def y3 : Ty := { z := (.int .i64 0), size := 1, bytes := 8, agg := false, sl := none, arr := none, fs := [], ik := some .i64 }
theorem y3_ok : OKt Try.prog 3 y3 := ⟨by kernel_rfl, ⟨_, Try.underlying3, rfl, rfl, rfl, rfl, rfl, rfl, rfl⟩, fun _ => rfl, rfl⟩
noncomputable def y4 : Ty := { z := (.bool false), size := 1, bytes := 1, agg := false, sl := none, arr := none, fs := [], bl := true }
theorem y4_ok : OKt Try.prog 4 y4 := ⟨by kernel_rfl, ⟨_, Try.underlying4, rfl, rfl, rfl, rfl, rfl, rfl, rfl⟩, fun _ => rfl, rfl⟩
noncomputable def y5 : Ty := { z := (.int .u8 0), size := 1, bytes := 1, agg := false, sl := none, arr := none, fs := [], ik := some .u8 }
theorem y5_ok : OKt Try.prog 5 y5 := ⟨by kernel_rfl, ⟨_, Try.underlying5, rfl, rfl, rfl, rfl, rfl, rfl, rfl⟩, fun _ => rfl, rfl⟩
noncomputable def y6 : Ty := { z := (.int .u8 0), size := 1, bytes := 1, agg := false, sl := none, arr := none, fs := [], ik := some .u8 }
theorem y6_ok : OKt Try.prog 6 y6 := ⟨by kernel_rfl, ⟨_, Try.underlying6, rfl, rfl, rfl, rfl, rfl, rfl, rfl⟩, fun _ => rfl, rfl⟩
noncomputable def y7 : Ty := { z := (.agg #[(.int .i64 0), (.int .i64 0), (.bool false), (.int .u8 0)]), size := 4, bytes := 24, agg := true, sl := none, arr := none, fs := [(0, 2), (1, 3), (2, 4), (3, 6)] }
theorem y7_ok : OKt Try.prog 7 y7 := ⟨by kernel_rfl, ⟨_, Try.underlying7, rfl, rfl, rfl, rfl, rfl, rfl, rfl⟩, (fun h => by cases h), rfl⟩
noncomputable def y8 : Ty := { z := (.agg #[(.int .i64 0), (.int .i64 0), (.bool false), (.int .u8 0)]), size := 4, bytes := 24, agg := true, sl := none, arr := none, fs := [(0, 2), (1, 3), (2, 4), (3, 6)] }
theorem y8_ok : OKt Try.prog 8 y8 := ⟨by kernel_rfl, ⟨_, Try.underlying8, rfl, rfl, rfl, rfl, rfl, rfl, rfl⟩, (fun h => by cases h), rfl⟩
noncomputable def y9 : Ty := { z := (.string ⟨#[]⟩), size := 1, bytes := 16, agg := false, sl := none, arr := none, fs := [], str := true }
theorem y9_ok : OKt Try.prog 9 y9 := ⟨by kernel_rfl, ⟨_, Try.underlying9, rfl, rfl, rfl, rfl, rfl, rfl, rfl⟩, fun _ => rfl, rfl⟩
noncomputable def y10 : Ty := { z := (.string ⟨#[]⟩), size := 1, bytes := 16, agg := false, sl := none, arr := none, fs := [], str := true }
theorem y10_ok : OKt Try.prog 10 y10 := ⟨by kernel_rfl, ⟨_, Try.underlying10, rfl, rfl, rfl, rfl, rfl, rfl, rfl⟩, fun _ => rfl, rfl⟩
noncomputable def y11 : Ty := { z := (.string ⟨#[]⟩), size := 1, bytes := 16, agg := false, sl := none, arr := none, fs := [], str := true }
theorem y11_ok : OKt Try.prog 11 y11 := ⟨by kernel_rfl, ⟨_, Try.underlying11, rfl, rfl, rfl, rfl, rfl, rfl, rfl⟩, fun _ => rfl, rfl⟩
noncomputable def y12 : Ty := { z := (.int .u64 0), size := 1, bytes := 8, agg := false, sl := none, arr := none, fs := [], ik := some .u64 }
theorem y12_ok : OKt Try.prog 12 y12 := ⟨by kernel_rfl, ⟨_, Try.underlying12, rfl, rfl, rfl, rfl, rfl, rfl, rfl⟩, fun _ => rfl, rfl⟩
noncomputable def y13 : Ty := { z := (.agg #[(.string ⟨#[]⟩), (.int .u64 0)]), size := 2, bytes := 24, agg := true, sl := none, arr := none, fs := [(0, 9), (1, 12)] }
theorem y13_ok : OKt Try.prog 13 y13 := ⟨by kernel_rfl, ⟨_, Try.underlying13, rfl, rfl, rfl, rfl, rfl, rfl, rfl⟩, (fun h => by cases h), rfl⟩
noncomputable def y14 : Ty := { z := (.agg #[(.string ⟨#[]⟩), (.int .u64 0)]), size := 2, bytes := 24, agg := true, sl := none, arr := none, fs := [(0, 9), (1, 12)] }
theorem y14_ok : OKt Try.prog 14 y14 := ⟨by kernel_rfl, ⟨_, Try.underlying14, rfl, rfl, rfl, rfl, rfl, rfl, rfl⟩, (fun h => by cases h), rfl⟩
noncomputable def y15 : Ty := { z := (.pointer none), size := 1, bytes := 8, agg := false, sl := none, arr := none, fs := [] }
theorem y15_ok : OKt Try.prog 15 y15 := ⟨by kernel_rfl, ⟨_, Try.underlying15, rfl, rfl, rfl, rfl, rfl, rfl, rfl⟩, fun _ => rfl, rfl⟩
noncomputable def y16 : Ty := { z := (.pointer none), size := 1, bytes := 8, agg := false, sl := none, arr := none, fs := [] }
theorem y16_ok : OKt Try.prog 16 y16 := ⟨by kernel_rfl, ⟨_, Try.underlying16, rfl, rfl, rfl, rfl, rfl, rfl, rfl⟩, fun _ => rfl, rfl⟩
noncomputable def y17 : Ty := { z := (.pointer none), size := 1, bytes := 8, agg := false, sl := none, arr := none, fs := [] }
theorem y17_ok : OKt Try.prog 17 y17 := ⟨by kernel_rfl, ⟨_, Try.underlying17, rfl, rfl, rfl, rfl, rfl, rfl, rfl⟩, fun _ => rfl, rfl⟩
noncomputable def y18 : Ty := { z := (.agg #[(.pointer none)]), size := 1, bytes := 8, agg := true, sl := none, arr := none, fs := [(0, 17)] }
theorem y18_ok : OKt Try.prog 18 y18 := ⟨by kernel_rfl, ⟨_, Try.underlying18, rfl, rfl, rfl, rfl, rfl, rfl, rfl⟩, (fun h => by cases h), rfl⟩
noncomputable def y19 : Ty := { z := (.agg #[(.pointer none)]), size := 1, bytes := 8, agg := true, sl := none, arr := none, fs := [(0, 17)] }
theorem y19_ok : OKt Try.prog 19 y19 := ⟨by kernel_rfl, ⟨_, Try.underlying19, rfl, rfl, rfl, rfl, rfl, rfl, rfl⟩, (fun h => by cases h), rfl⟩
noncomputable def y21 : Ty := { z := (.int .i32 0), size := 1, bytes := 4, agg := false, sl := none, arr := none, fs := [], ik := some .i32 }
theorem y21_ok : OKt Try.prog 21 y21 := ⟨by kernel_rfl, ⟨_, Try.underlying21, rfl, rfl, rfl, rfl, rfl, rfl, rfl⟩, fun _ => rfl, rfl⟩
noncomputable def y22 : Ty := { z := (.int .i64 0), size := 1, bytes := 8, agg := false, sl := none, arr := none, fs := [], ik := some .i64 }
theorem y22_ok : OKt Try.prog 22 y22 := ⟨by kernel_rfl, ⟨_, Try.underlying22, rfl, rfl, rfl, rfl, rfl, rfl, rfl⟩, fun _ => rfl, rfl⟩
noncomputable def y23 : Ty := { z := (.slice none 0 0), size := 1, bytes := 24, agg := false, sl := some 3, arr := none, fs := [] }
theorem y23_ok : OKt Try.prog 23 y23 := ⟨by kernel_rfl, ⟨_, Try.underlying23, rfl, rfl, rfl, rfl, rfl, rfl, rfl⟩, fun _ => rfl, rfl⟩
noncomputable def y24 : Ty := { z := (.agg #[(.int .i64 0), (.slice none 0 0), (.slice none 0 0)]), size := 3, bytes := 56, agg := true, sl := none, arr := none, fs := [(0, 22), (1, 23), (2, 23)] }
theorem y24_ok : OKt Try.prog 24 y24 := ⟨by kernel_rfl, ⟨_, Try.underlying24, rfl, rfl, rfl, rfl, rfl, rfl, rfl⟩, (fun h => by cases h), rfl⟩
noncomputable def y25 : Ty := { z := (.agg #[(.int .i64 0), (.slice none 0 0), (.slice none 0 0)]), size := 3, bytes := 56, agg := true, sl := none, arr := none, fs := [(0, 22), (1, 23), (2, 23)] }
theorem y25_ok : OKt Try.prog 25 y25 := ⟨by kernel_rfl, ⟨_, Try.underlying25, rfl, rfl, rfl, rfl, rfl, rfl, rfl⟩, (fun h => by cases h), rfl⟩
noncomputable def y26 : Ty := { z := (.slice none 0 0), size := 1, bytes := 24, agg := false, sl := some 28, arr := none, fs := [] }
theorem y26_ok : OKt Try.prog 26 y26 := ⟨by kernel_rfl, ⟨_, Try.underlying26, rfl, rfl, rfl, rfl, rfl, rfl, rfl⟩, fun _ => rfl, rfl⟩
noncomputable def y27 : Ty := { z := .nilFunc, size := 1, bytes := 8, agg := false, sl := none, arr := none, fs := [] }
theorem y27_ok : OKt Try.prog 27 y27 := ⟨by kernel_rfl, ⟨_, Try.underlying27, rfl, rfl, rfl, rfl, rfl, rfl, rfl⟩, fun _ => rfl, rfl⟩
noncomputable def y28 : Ty := { z := (.slice none 0 0), size := 1, bytes := 24, agg := false, sl := some 3, arr := none, fs := [] }
theorem y28_ok : OKt Try.prog 28 y28 := ⟨by kernel_rfl, ⟨_, Try.underlying28, rfl, rfl, rfl, rfl, rfl, rfl, rfl⟩, fun _ => rfl, rfl⟩
noncomputable def y29 : Ty := { z := (.int .i64 0), size := 1, bytes := 8, agg := false, sl := none, arr := none, fs := [], ik := some .i64 }
theorem y29_ok : OKt Try.prog 29 y29 := ⟨by kernel_rfl, ⟨_, Try.underlying29, rfl, rfl, rfl, rfl, rfl, rfl, rfl⟩, fun _ => rfl, rfl⟩
noncomputable def y31 : Ty := { z := .nilFunc, size := 1, bytes := 8, agg := false, sl := none, arr := none, fs := [] }
theorem y31_ok : OKt Try.prog 31 y31 := ⟨by kernel_rfl, ⟨_, Try.underlying31, rfl, rfl, rfl, rfl, rfl, rfl, rfl⟩, fun _ => rfl, rfl⟩
noncomputable def y33 : Ty := { z := .nilFunc, size := 1, bytes := 8, agg := false, sl := none, arr := none, fs := [] }
theorem y33_ok : OKt Try.prog 33 y33 := ⟨by kernel_rfl, ⟨_, Try.underlying33, rfl, rfl, rfl, rfl, rfl, rfl, rfl⟩, fun _ => rfl, rfl⟩
noncomputable def y34 : Ty := { z := (.slice none 0 0), size := 1, bytes := 24, agg := false, sl := some 23, arr := none, fs := [] }
theorem y34_ok : OKt Try.prog 34 y34 := ⟨by kernel_rfl, ⟨_, Try.underlying34, rfl, rfl, rfl, rfl, rfl, rfl, rfl⟩, fun _ => rfl, rfl⟩
noncomputable def y35 : Ty := { z := .nilFunc, size := 1, bytes := 8, agg := false, sl := none, arr := none, fs := [] }
theorem y35_ok : OKt Try.prog 35 y35 := ⟨by kernel_rfl, ⟨_, Try.underlying35, rfl, rfl, rfl, rfl, rfl, rfl, rfl⟩, fun _ => rfl, rfl⟩
noncomputable def y36 : Ty := { z := .nilFunc, size := 1, bytes := 8, agg := false, sl := none, arr := none, fs := [] }
theorem y36_ok : OKt Try.prog 36 y36 := ⟨by kernel_rfl, ⟨_, Try.underlying36, rfl, rfl, rfl, rfl, rfl, rfl, rfl⟩, fun _ => rfl, rfl⟩
noncomputable def y37 : Ty := { z := .nilFunc, size := 1, bytes := 8, agg := false, sl := none, arr := none, fs := [] }
theorem y37_ok : OKt Try.prog 37 y37 := ⟨by kernel_rfl, ⟨_, Try.underlying37, rfl, rfl, rfl, rfl, rfl, rfl, rfl⟩, fun _ => rfl, rfl⟩
noncomputable def y38 : Ty := { z := .nilFunc, size := 1, bytes := 8, agg := false, sl := none, arr := none, fs := [] }
theorem y38_ok : OKt Try.prog 38 y38 := ⟨by kernel_rfl, ⟨_, Try.underlying38, rfl, rfl, rfl, rfl, rfl, rfl, rfl⟩, fun _ => rfl, rfl⟩
noncomputable def y39 : Ty := { z := .nilFunc, size := 1, bytes := 8, agg := false, sl := none, arr := none, fs := [] }
theorem y39_ok : OKt Try.prog 39 y39 := ⟨by kernel_rfl, ⟨_, Try.underlying39, rfl, rfl, rfl, rfl, rfl, rfl, rfl⟩, fun _ => rfl, rfl⟩
noncomputable def y40 : Ty := { z := .nilFunc, size := 1, bytes := 8, agg := false, sl := none, arr := none, fs := [] }
theorem y40_ok : OKt Try.prog 40 y40 := ⟨by kernel_rfl, ⟨_, Try.underlying40, rfl, rfl, rfl, rfl, rfl, rfl, rfl⟩, fun _ => rfl, rfl⟩
noncomputable def y41 : Ty := { z := .nilFunc, size := 1, bytes := 8, agg := false, sl := none, arr := none, fs := [] }
theorem y41_ok : OKt Try.prog 41 y41 := ⟨by kernel_rfl, ⟨_, Try.underlying41, rfl, rfl, rfl, rfl, rfl, rfl, rfl⟩, fun _ => rfl, rfl⟩
noncomputable def y42 : Ty := { z := .nilFunc, size := 1, bytes := 8, agg := false, sl := none, arr := none, fs := [] }
theorem y42_ok : OKt Try.prog 42 y42 := ⟨by kernel_rfl, ⟨_, Try.underlying42, rfl, rfl, rfl, rfl, rfl, rfl, rfl⟩, fun _ => rfl, rfl⟩
noncomputable def y43 : Ty := { z := .nilFunc, size := 1, bytes := 8, agg := false, sl := none, arr := none, fs := [] }
theorem y43_ok : OKt Try.prog 43 y43 := ⟨by kernel_rfl, ⟨_, Try.underlying43, rfl, rfl, rfl, rfl, rfl, rfl, rfl⟩, fun _ => rfl, rfl⟩
noncomputable def y44 : Ty := { z := .nilFunc, size := 1, bytes := 8, agg := false, sl := none, arr := none, fs := [] }
theorem y44_ok : OKt Try.prog 44 y44 := ⟨by kernel_rfl, ⟨_, Try.underlying44, rfl, rfl, rfl, rfl, rfl, rfl, rfl⟩, fun _ => rfl, rfl⟩
noncomputable def y45 : Ty := { z := .nilFunc, size := 1, bytes := 8, agg := false, sl := none, arr := none, fs := [] }
theorem y45_ok : OKt Try.prog 45 y45 := ⟨by kernel_rfl, ⟨_, Try.underlying45, rfl, rfl, rfl, rfl, rfl, rfl, rfl⟩, fun _ => rfl, rfl⟩
noncomputable def y46 : Ty := { z := .nilFunc, size := 1, bytes := 8, agg := false, sl := none, arr := none, fs := [] }
theorem y46_ok : OKt Try.prog 46 y46 := ⟨by kernel_rfl, ⟨_, Try.underlying46, rfl, rfl, rfl, rfl, rfl, rfl, rfl⟩, fun _ => rfl, rfl⟩
noncomputable def y47 : Ty := { z := .nilFunc, size := 1, bytes := 8, agg := false, sl := none, arr := none, fs := [] }
theorem y47_ok : OKt Try.prog 47 y47 := ⟨by kernel_rfl, ⟨_, Try.underlying47, rfl, rfl, rfl, rfl, rfl, rfl, rfl⟩, fun _ => rfl, rfl⟩
noncomputable def y48 : Ty := { z := .nilFunc, size := 1, bytes := 8, agg := false, sl := none, arr := none, fs := [] }
theorem y48_ok : OKt Try.prog 48 y48 := ⟨by kernel_rfl, ⟨_, Try.underlying48, rfl, rfl, rfl, rfl, rfl, rfl, rfl⟩, fun _ => rfl, rfl⟩
noncomputable def y49 : Ty := { z := .nilFunc, size := 1, bytes := 8, agg := false, sl := none, arr := none, fs := [] }
theorem y49_ok : OKt Try.prog 49 y49 := ⟨by kernel_rfl, ⟨_, Try.underlying49, rfl, rfl, rfl, rfl, rfl, rfl, rfl⟩, fun _ => rfl, rfl⟩
noncomputable def y50 : Ty := { z := .nilFunc, size := 1, bytes := 8, agg := false, sl := none, arr := none, fs := [] }
theorem y50_ok : OKt Try.prog 50 y50 := ⟨by kernel_rfl, ⟨_, Try.underlying50, rfl, rfl, rfl, rfl, rfl, rfl, rfl⟩, fun _ => rfl, rfl⟩
noncomputable def y52 : Ty := { z := .nilFunc, size := 1, bytes := 8, agg := false, sl := none, arr := none, fs := [] }
theorem y52_ok : OKt Try.prog 52 y52 := ⟨by kernel_rfl, ⟨_, Try.underlying52, rfl, rfl, rfl, rfl, rfl, rfl, rfl⟩, fun _ => rfl, rfl⟩
noncomputable def y53 : Ty := { z := .nilFunc, size := 1, bytes := 8, agg := false, sl := none, arr := none, fs := [] }
theorem y53_ok : OKt Try.prog 53 y53 := ⟨by kernel_rfl, ⟨_, Try.underlying53, rfl, rfl, rfl, rfl, rfl, rfl, rfl⟩, fun _ => rfl, rfl⟩
noncomputable def y54 : Ty := { z := .nilFunc, size := 1, bytes := 8, agg := false, sl := none, arr := none, fs := [] }
theorem y54_ok : OKt Try.prog 54 y54 := ⟨by kernel_rfl, ⟨_, Try.underlying54, rfl, rfl, rfl, rfl, rfl, rfl, rfl⟩, fun _ => rfl, rfl⟩
noncomputable def y55 : Ty := { z := .nilFunc, size := 1, bytes := 8, agg := false, sl := none, arr := none, fs := [] }
theorem y55_ok : OKt Try.prog 55 y55 := ⟨by kernel_rfl, ⟨_, Try.underlying55, rfl, rfl, rfl, rfl, rfl, rfl, rfl⟩, fun _ => rfl, rfl⟩
noncomputable def y56 : Ty := { z := (.agg #[(.int .i64 0), (.string ⟨#[]⟩), (.int .i64 0), (.int .i64 0), (.int .i64 0), (.int .i64 0), .nilFunc, (.int .i64 0)]), size := 8, bytes := 72, agg := true, sl := none, arr := none, fs := [(0, 22), (1, 9), (2, 3), (3, 3), (4, 3), (5, 3), (6, 55), (7, 3)] }
theorem y56_ok : OKt Try.prog 56 y56 := ⟨by kernel_rfl, ⟨_, Try.underlying56, rfl, rfl, rfl, rfl, rfl, rfl, rfl⟩, (fun h => by cases h), rfl⟩
noncomputable def y57 : Ty := { z := (.agg #[(.int .i64 0), (.string ⟨#[]⟩), (.int .i64 0), (.int .i64 0), (.int .i64 0), (.int .i64 0), .nilFunc, (.int .i64 0)]), size := 8, bytes := 72, agg := true, sl := none, arr := none, fs := [(0, 22), (1, 9), (2, 3), (3, 3), (4, 3), (5, 3), (6, 55), (7, 3)] }
theorem y57_ok : OKt Try.prog 57 y57 := ⟨by kernel_rfl, ⟨_, Try.underlying57, rfl, rfl, rfl, rfl, rfl, rfl, rfl⟩, (fun h => by cases h), rfl⟩
noncomputable def y59 : Ty := { z := .nilFunc, size := 1, bytes := 8, agg := false, sl := none, arr := none, fs := [] }
theorem y59_ok : OKt Try.prog 59 y59 := ⟨by kernel_rfl, ⟨_, Try.underlying59, rfl, rfl, rfl, rfl, rfl, rfl, rfl⟩, fun _ => rfl, rfl⟩
noncomputable def y60 : Ty := { z := .nilFunc, size := 1, bytes := 8, agg := false, sl := none, arr := none, fs := [] }
theorem y60_ok : OKt Try.prog 60 y60 := ⟨by kernel_rfl, ⟨_, Try.underlying60, rfl, rfl, rfl, rfl, rfl, rfl, rfl⟩, fun _ => rfl, rfl⟩
noncomputable def y61 : Ty := { z := .nilFunc, size := 1, bytes := 8, agg := false, sl := none, arr := none, fs := [] }
theorem y61_ok : OKt Try.prog 61 y61 := ⟨by kernel_rfl, ⟨_, Try.underlying61, rfl, rfl, rfl, rfl, rfl, rfl, rfl⟩, fun _ => rfl, rfl⟩
noncomputable def y62 : Ty := { z := .nilFunc, size := 1, bytes := 8, agg := false, sl := none, arr := none, fs := [] }
theorem y62_ok : OKt Try.prog 62 y62 := ⟨by kernel_rfl, ⟨_, Try.underlying62, rfl, rfl, rfl, rfl, rfl, rfl, rfl⟩, fun _ => rfl, rfl⟩
noncomputable def y63 : Ty := { z := .nilFunc, size := 1, bytes := 8, agg := false, sl := none, arr := none, fs := [] }
theorem y63_ok : OKt Try.prog 63 y63 := ⟨by kernel_rfl, ⟨_, Try.underlying63, rfl, rfl, rfl, rfl, rfl, rfl, rfl⟩, fun _ => rfl, rfl⟩
noncomputable def y64 : Ty := { z := .nilFunc, size := 1, bytes := 8, agg := false, sl := none, arr := none, fs := [] }
theorem y64_ok : OKt Try.prog 64 y64 := ⟨by kernel_rfl, ⟨_, Try.underlying64, rfl, rfl, rfl, rfl, rfl, rfl, rfl⟩, fun _ => rfl, rfl⟩
noncomputable def y65 : Ty := { z := .nilFunc, size := 1, bytes := 8, agg := false, sl := none, arr := none, fs := [] }
theorem y65_ok : OKt Try.prog 65 y65 := ⟨by kernel_rfl, ⟨_, Try.underlying65, rfl, rfl, rfl, rfl, rfl, rfl, rfl⟩, fun _ => rfl, rfl⟩
noncomputable def y66 : Ty := { z := .nilFunc, size := 1, bytes := 8, agg := false, sl := none, arr := none, fs := [] }
theorem y66_ok : OKt Try.prog 66 y66 := ⟨by kernel_rfl, ⟨_, Try.underlying66, rfl, rfl, rfl, rfl, rfl, rfl, rfl⟩, fun _ => rfl, rfl⟩
noncomputable def y67 : Ty := { z := .nilFunc, size := 1, bytes := 8, agg := false, sl := none, arr := none, fs := [] }
theorem y67_ok : OKt Try.prog 67 y67 := ⟨by kernel_rfl, ⟨_, Try.underlying67, rfl, rfl, rfl, rfl, rfl, rfl, rfl⟩, fun _ => rfl, rfl⟩
noncomputable def y68 : Ty := { z := .nilFunc, size := 1, bytes := 8, agg := false, sl := none, arr := none, fs := [] }
theorem y68_ok : OKt Try.prog 68 y68 := ⟨by kernel_rfl, ⟨_, Try.underlying68, rfl, rfl, rfl, rfl, rfl, rfl, rfl⟩, fun _ => rfl, rfl⟩
noncomputable def y69 : Ty := { z := .nilFunc, size := 1, bytes := 8, agg := false, sl := none, arr := none, fs := [] }
theorem y69_ok : OKt Try.prog 69 y69 := ⟨by kernel_rfl, ⟨_, Try.underlying69, rfl, rfl, rfl, rfl, rfl, rfl, rfl⟩, fun _ => rfl, rfl⟩
noncomputable def y70 : Ty := { z := .nilFunc, size := 1, bytes := 8, agg := false, sl := none, arr := none, fs := [] }
theorem y70_ok : OKt Try.prog 70 y70 := ⟨by kernel_rfl, ⟨_, Try.underlying70, rfl, rfl, rfl, rfl, rfl, rfl, rfl⟩, fun _ => rfl, rfl⟩
noncomputable def y71 : Ty := { z := .nilFunc, size := 1, bytes := 8, agg := false, sl := none, arr := none, fs := [] }
theorem y71_ok : OKt Try.prog 71 y71 := ⟨by kernel_rfl, ⟨_, Try.underlying71, rfl, rfl, rfl, rfl, rfl, rfl, rfl⟩, fun _ => rfl, rfl⟩
noncomputable def y72 : Ty := { z := .nilFunc, size := 1, bytes := 8, agg := false, sl := none, arr := none, fs := [] }
theorem y72_ok : OKt Try.prog 72 y72 := ⟨by kernel_rfl, ⟨_, Try.underlying72, rfl, rfl, rfl, rfl, rfl, rfl, rfl⟩, fun _ => rfl, rfl⟩
noncomputable def y73 : Ty := { z := .nilFunc, size := 1, bytes := 8, agg := false, sl := none, arr := none, fs := [] }
theorem y73_ok : OKt Try.prog 73 y73 := ⟨by kernel_rfl, ⟨_, Try.underlying73, rfl, rfl, rfl, rfl, rfl, rfl, rfl⟩, fun _ => rfl, rfl⟩
noncomputable def y74 : Ty := { z := .nilFunc, size := 1, bytes := 8, agg := false, sl := none, arr := none, fs := [] }
theorem y74_ok : OKt Try.prog 74 y74 := ⟨by kernel_rfl, ⟨_, Try.underlying74, rfl, rfl, rfl, rfl, rfl, rfl, rfl⟩, fun _ => rfl, rfl⟩
noncomputable def y75 : Ty := { z := .nilFunc, size := 1, bytes := 8, agg := false, sl := none, arr := none, fs := [] }
theorem y75_ok : OKt Try.prog 75 y75 := ⟨by kernel_rfl, ⟨_, Try.underlying75, rfl, rfl, rfl, rfl, rfl, rfl, rfl⟩, fun _ => rfl, rfl⟩
noncomputable def y76 : Ty := { z := .nilFunc, size := 1, bytes := 8, agg := false, sl := none, arr := none, fs := [] }
theorem y76_ok : OKt Try.prog 76 y76 := ⟨by kernel_rfl, ⟨_, Try.underlying76, rfl, rfl, rfl, rfl, rfl, rfl, rfl⟩, fun _ => rfl, rfl⟩
noncomputable def y77 : Ty := { z := .nilFunc, size := 1, bytes := 8, agg := false, sl := none, arr := none, fs := [] }
theorem y77_ok : OKt Try.prog 77 y77 := ⟨by kernel_rfl, ⟨_, Try.underlying77, rfl, rfl, rfl, rfl, rfl, rfl, rfl⟩, fun _ => rfl, rfl⟩
noncomputable def y78 : Ty := { z := .nilFunc, size := 1, bytes := 8, agg := false, sl := none, arr := none, fs := [] }
theorem y78_ok : OKt Try.prog 78 y78 := ⟨by kernel_rfl, ⟨_, Try.underlying78, rfl, rfl, rfl, rfl, rfl, rfl, rfl⟩, fun _ => rfl, rfl⟩
noncomputable def y79 : Ty := { z := .nilFunc, size := 1, bytes := 8, agg := false, sl := none, arr := none, fs := [] }
theorem y79_ok : OKt Try.prog 79 y79 := ⟨by kernel_rfl, ⟨_, Try.underlying79, rfl, rfl, rfl, rfl, rfl, rfl, rfl⟩, fun _ => rfl, rfl⟩
noncomputable def y80 : Ty := { z := .nilFunc, size := 1, bytes := 8, agg := false, sl := none, arr := none, fs := [] }
theorem y80_ok : OKt Try.prog 80 y80 := ⟨by kernel_rfl, ⟨_, Try.underlying80, rfl, rfl, rfl, rfl, rfl, rfl, rfl⟩, fun _ => rfl, rfl⟩
noncomputable def y81 : Ty := { z := .nilFunc, size := 1, bytes := 8, agg := false, sl := none, arr := none, fs := [] }
theorem y81_ok : OKt Try.prog 81 y81 := ⟨by kernel_rfl, ⟨_, Try.underlying81, rfl, rfl, rfl, rfl, rfl, rfl, rfl⟩, fun _ => rfl, rfl⟩
noncomputable def y82 : Ty := { z := .nilFunc, size := 1, bytes := 8, agg := false, sl := none, arr := none, fs := [] }
theorem y82_ok : OKt Try.prog 82 y82 := ⟨by kernel_rfl, ⟨_, Try.underlying82, rfl, rfl, rfl, rfl, rfl, rfl, rfl⟩, fun _ => rfl, rfl⟩
noncomputable def y83 : Ty := { z := .nilFunc, size := 1, bytes := 8, agg := false, sl := none, arr := none, fs := [] }
theorem y83_ok : OKt Try.prog 83 y83 := ⟨by kernel_rfl, ⟨_, Try.underlying83, rfl, rfl, rfl, rfl, rfl, rfl, rfl⟩, fun _ => rfl, rfl⟩
noncomputable def y84 : Ty := { z := .nilFunc, size := 1, bytes := 8, agg := false, sl := none, arr := none, fs := [] }
theorem y84_ok : OKt Try.prog 84 y84 := ⟨by kernel_rfl, ⟨_, Try.underlying84, rfl, rfl, rfl, rfl, rfl, rfl, rfl⟩, fun _ => rfl, rfl⟩
noncomputable def y85 : Ty := { z := .nilFunc, size := 1, bytes := 8, agg := false, sl := none, arr := none, fs := [] }
theorem y85_ok : OKt Try.prog 85 y85 := ⟨by kernel_rfl, ⟨_, Try.underlying85, rfl, rfl, rfl, rfl, rfl, rfl, rfl⟩, fun _ => rfl, rfl⟩
noncomputable def y86 : Ty := { z := .nilFunc, size := 1, bytes := 8, agg := false, sl := none, arr := none, fs := [] }
theorem y86_ok : OKt Try.prog 86 y86 := ⟨by kernel_rfl, ⟨_, Try.underlying86, rfl, rfl, rfl, rfl, rfl, rfl, rfl⟩, fun _ => rfl, rfl⟩
noncomputable def y87 : Ty := { z := .nilFunc, size := 1, bytes := 8, agg := false, sl := none, arr := none, fs := [] }
theorem y87_ok : OKt Try.prog 87 y87 := ⟨by kernel_rfl, ⟨_, Try.underlying87, rfl, rfl, rfl, rfl, rfl, rfl, rfl⟩, fun _ => rfl, rfl⟩
noncomputable def y89 : Ty := { z := .nilFunc, size := 1, bytes := 8, agg := false, sl := none, arr := none, fs := [] }
theorem y89_ok : OKt Try.prog 89 y89 := ⟨by kernel_rfl, ⟨_, Try.underlying89, rfl, rfl, rfl, rfl, rfl, rfl, rfl⟩, fun _ => rfl, rfl⟩
noncomputable def y90 : Ty := { z := .nilFunc, size := 1, bytes := 8, agg := false, sl := none, arr := none, fs := [] }
theorem y90_ok : OKt Try.prog 90 y90 := ⟨by kernel_rfl, ⟨_, Try.underlying90, rfl, rfl, rfl, rfl, rfl, rfl, rfl⟩, fun _ => rfl, rfl⟩
noncomputable def y91 : Ty := { z := (.slice none 0 0), size := 1, bytes := 24, agg := false, sl := some 57, arr := none, fs := [] }
theorem y91_ok : OKt Try.prog 91 y91 := ⟨by kernel_rfl, ⟨_, Try.underlying91, rfl, rfl, rfl, rfl, rfl, rfl, rfl⟩, fun _ => rfl, rfl⟩
noncomputable def y92 : Ty := { z := .nilFunc, size := 1, bytes := 8, agg := false, sl := none, arr := none, fs := [] }
theorem y92_ok : OKt Try.prog 92 y92 := ⟨by kernel_rfl, ⟨_, Try.underlying92, rfl, rfl, rfl, rfl, rfl, rfl, rfl⟩, fun _ => rfl, rfl⟩
noncomputable def y93 : Ty := { z := .nilFunc, size := 1, bytes := 8, agg := false, sl := none, arr := none, fs := [] }
theorem y93_ok : OKt Try.prog 93 y93 := ⟨by kernel_rfl, ⟨_, Try.underlying93, rfl, rfl, rfl, rfl, rfl, rfl, rfl⟩, fun _ => rfl, rfl⟩
noncomputable def y94 : Ty := { z := .nilFunc, size := 1, bytes := 8, agg := false, sl := none, arr := none, fs := [] }
theorem y94_ok : OKt Try.prog 94 y94 := ⟨by kernel_rfl, ⟨_, Try.underlying94, rfl, rfl, rfl, rfl, rfl, rfl, rfl⟩, fun _ => rfl, rfl⟩
noncomputable def y95 : Ty := { z := .nilFunc, size := 1, bytes := 8, agg := false, sl := none, arr := none, fs := [] }
theorem y95_ok : OKt Try.prog 95 y95 := ⟨by kernel_rfl, ⟨_, Try.underlying95, rfl, rfl, rfl, rfl, rfl, rfl, rfl⟩, fun _ => rfl, rfl⟩
noncomputable def y96 : Ty := { z := .nilFunc, size := 1, bytes := 8, agg := false, sl := none, arr := none, fs := [] }
theorem y96_ok : OKt Try.prog 96 y96 := ⟨by kernel_rfl, ⟨_, Try.underlying96, rfl, rfl, rfl, rfl, rfl, rfl, rfl⟩, fun _ => rfl, rfl⟩
noncomputable def y97 : Ty := { z := .nilFunc, size := 1, bytes := 8, agg := false, sl := none, arr := none, fs := [] }
theorem y97_ok : OKt Try.prog 97 y97 := ⟨by kernel_rfl, ⟨_, Try.underlying97, rfl, rfl, rfl, rfl, rfl, rfl, rfl⟩, fun _ => rfl, rfl⟩
noncomputable def y98 : Ty := { z := .nilFunc, size := 1, bytes := 8, agg := false, sl := none, arr := none, fs := [] }
theorem y98_ok : OKt Try.prog 98 y98 := ⟨by kernel_rfl, ⟨_, Try.underlying98, rfl, rfl, rfl, rfl, rfl, rfl, rfl⟩, fun _ => rfl, rfl⟩
noncomputable def y99 : Ty := { z := .nilFunc, size := 1, bytes := 8, agg := false, sl := none, arr := none, fs := [] }
theorem y99_ok : OKt Try.prog 99 y99 := ⟨by kernel_rfl, ⟨_, Try.underlying99, rfl, rfl, rfl, rfl, rfl, rfl, rfl⟩, fun _ => rfl, rfl⟩
noncomputable def y100 : Ty := { z := .nilFunc, size := 1, bytes := 8, agg := false, sl := none, arr := none, fs := [] }
theorem y100_ok : OKt Try.prog 100 y100 := ⟨by kernel_rfl, ⟨_, Try.underlying100, rfl, rfl, rfl, rfl, rfl, rfl, rfl⟩, fun _ => rfl, rfl⟩
noncomputable def y101 : Ty := { z := .nilFunc, size := 1, bytes := 8, agg := false, sl := none, arr := none, fs := [] }
theorem y101_ok : OKt Try.prog 101 y101 := ⟨by kernel_rfl, ⟨_, Try.underlying101, rfl, rfl, rfl, rfl, rfl, rfl, rfl⟩, fun _ => rfl, rfl⟩
noncomputable def y102 : Ty := { z := .nilFunc, size := 1, bytes := 8, agg := false, sl := none, arr := none, fs := [] }
theorem y102_ok : OKt Try.prog 102 y102 := ⟨by kernel_rfl, ⟨_, Try.underlying102, rfl, rfl, rfl, rfl, rfl, rfl, rfl⟩, fun _ => rfl, rfl⟩
noncomputable def y103 : Ty := { z := (.int .u64 0), size := 1, bytes := 8, agg := false, sl := none, arr := none, fs := [], ik := some .u64 }
theorem y103_ok : OKt Try.prog 103 y103 := ⟨by kernel_rfl, ⟨_, Try.underlying103, rfl, rfl, rfl, rfl, rfl, rfl, rfl⟩, fun _ => rfl, rfl⟩
noncomputable def y104 : Ty := { z := .nilFunc, size := 1, bytes := 8, agg := false, sl := none, arr := none, fs := [] }
theorem y104_ok : OKt Try.prog 104 y104 := ⟨by kernel_rfl, ⟨_, Try.underlying104, rfl, rfl, rfl, rfl, rfl, rfl, rfl⟩, fun _ => rfl, rfl⟩
noncomputable def y105 : Ty := { z := (.int .i64 0), size := 1, bytes := 8, agg := false, sl := none, arr := none, fs := [], ik := some .i64 }
theorem y105_ok : OKt Try.prog 105 y105 := ⟨by kernel_rfl, ⟨_, Try.underlying105, rfl, rfl, rfl, rfl, rfl, rfl, rfl⟩, fun _ => rfl, rfl⟩
noncomputable def y107 : Ty := { z := .nilFunc, size := 1, bytes := 8, agg := false, sl := none, arr := none, fs := [] }
theorem y107_ok : OKt Try.prog 107 y107 := ⟨by kernel_rfl, ⟨_, Try.underlying107, rfl, rfl, rfl, rfl, rfl, rfl, rfl⟩, fun _ => rfl, rfl⟩
noncomputable def y108 : Ty := { z := .nilFunc, size := 1, bytes := 8, agg := false, sl := none, arr := none, fs := [] }
theorem y108_ok : OKt Try.prog 108 y108 := ⟨by kernel_rfl, ⟨_, Try.underlying108, rfl, rfl, rfl, rfl, rfl, rfl, rfl⟩, fun _ => rfl, rfl⟩
noncomputable def y109 : Ty := { z := .nilFunc, size := 1, bytes := 8, agg := false, sl := none, arr := none, fs := [] }
theorem y109_ok : OKt Try.prog 109 y109 := ⟨by kernel_rfl, ⟨_, Try.underlying109, rfl, rfl, rfl, rfl, rfl, rfl, rfl⟩, fun _ => rfl, rfl⟩
noncomputable def y110 : Ty := { z := .nilFunc, size := 1, bytes := 8, agg := false, sl := none, arr := none, fs := [] }
theorem y110_ok : OKt Try.prog 110 y110 := ⟨by kernel_rfl, ⟨_, Try.underlying110, rfl, rfl, rfl, rfl, rfl, rfl, rfl⟩, fun _ => rfl, rfl⟩
noncomputable def y111 : Ty := { z := .nilFunc, size := 1, bytes := 8, agg := false, sl := none, arr := none, fs := [] }
theorem y111_ok : OKt Try.prog 111 y111 := ⟨by kernel_rfl, ⟨_, Try.underlying111, rfl, rfl, rfl, rfl, rfl, rfl, rfl⟩, fun _ => rfl, rfl⟩
noncomputable def y112 : Ty := { z := (.int .u32 0), size := 1, bytes := 4, agg := false, sl := none, arr := none, fs := [], ik := some .u32 }
theorem y112_ok : OKt Try.prog 112 y112 := ⟨by kernel_rfl, ⟨_, Try.underlying112, rfl, rfl, rfl, rfl, rfl, rfl, rfl⟩, fun _ => rfl, rfl⟩
noncomputable def y113 : Ty := { z := .nilFunc, size := 1, bytes := 8, agg := false, sl := none, arr := none, fs := [] }
theorem y113_ok : OKt Try.prog 113 y113 := ⟨by kernel_rfl, ⟨_, Try.underlying113, rfl, rfl, rfl, rfl, rfl, rfl, rfl⟩, fun _ => rfl, rfl⟩
noncomputable def y114 : Ty := { z := (.int .u64 0), size := 1, bytes := 8, agg := false, sl := none, arr := none, fs := [], ik := some .u64 }
theorem y114_ok : OKt Try.prog 114 y114 := ⟨by kernel_rfl, ⟨_, Try.underlying114, rfl, rfl, rfl, rfl, rfl, rfl, rfl⟩, fun _ => rfl, rfl⟩
noncomputable def y115 : Ty := { z := (.int .u64 0), size := 1, bytes := 8, agg := false, sl := none, arr := none, fs := [], ik := some .u64 }
theorem y115_ok : OKt Try.prog 115 y115 := ⟨by kernel_rfl, ⟨_, Try.underlying115, rfl, rfl, rfl, rfl, rfl, rfl, rfl⟩, fun _ => rfl, rfl⟩
noncomputable def y116 : Ty := { z := .nilFunc, size := 1, bytes := 8, agg := false, sl := none, arr := none, fs := [] }
theorem y116_ok : OKt Try.prog 116 y116 := ⟨by kernel_rfl, ⟨_, Try.underlying116, rfl, rfl, rfl, rfl, rfl, rfl, rfl⟩, fun _ => rfl, rfl⟩
noncomputable def y117 : Ty := { z := .nilFunc, size := 1, bytes := 8, agg := false, sl := none, arr := none, fs := [] }
theorem y117_ok : OKt Try.prog 117 y117 := ⟨by kernel_rfl, ⟨_, Try.underlying117, rfl, rfl, rfl, rfl, rfl, rfl, rfl⟩, fun _ => rfl, rfl⟩
noncomputable def y118 : Ty := { z := .nilFunc, size := 1, bytes := 8, agg := false, sl := none, arr := none, fs := [] }
theorem y118_ok : OKt Try.prog 118 y118 := ⟨by kernel_rfl, ⟨_, Try.underlying118, rfl, rfl, rfl, rfl, rfl, rfl, rfl⟩, fun _ => rfl, rfl⟩
noncomputable def y119 : Ty := { z := (.pointer none), size := 1, bytes := 8, agg := false, sl := none, arr := none, fs := [] }
theorem y119_ok : OKt Try.prog 119 y119 := ⟨by kernel_rfl, ⟨_, Try.underlying119, rfl, rfl, rfl, rfl, rfl, rfl, rfl⟩, fun _ => rfl, rfl⟩
noncomputable def y120 : Ty := { z := .nilFunc, size := 1, bytes := 8, agg := false, sl := none, arr := none, fs := [] }
theorem y120_ok : OKt Try.prog 120 y120 := ⟨by kernel_rfl, ⟨_, Try.underlying120, rfl, rfl, rfl, rfl, rfl, rfl, rfl⟩, fun _ => rfl, rfl⟩
noncomputable def y121 : Ty := { z := (.pointer none), size := 1, bytes := 8, agg := false, sl := none, arr := none, fs := [] }
theorem y121_ok : OKt Try.prog 121 y121 := ⟨by kernel_rfl, ⟨_, Try.underlying121, rfl, rfl, rfl, rfl, rfl, rfl, rfl⟩, fun _ => rfl, rfl⟩
noncomputable def y122 : Ty := { z := .nilFunc, size := 1, bytes := 8, agg := false, sl := none, arr := none, fs := [] }
theorem y122_ok : OKt Try.prog 122 y122 := ⟨by kernel_rfl, ⟨_, Try.underlying122, rfl, rfl, rfl, rfl, rfl, rfl, rfl⟩, fun _ => rfl, rfl⟩
noncomputable def y123 : Ty := { z := .nilFunc, size := 1, bytes := 8, agg := false, sl := none, arr := none, fs := [] }
theorem y123_ok : OKt Try.prog 123 y123 := ⟨by kernel_rfl, ⟨_, Try.underlying123, rfl, rfl, rfl, rfl, rfl, rfl, rfl⟩, fun _ => rfl, rfl⟩
noncomputable def y124 : Ty := { z := (.agg #[(.pointer none), (.pointer none), (.pointer none), (.string ⟨#[]⟩)]), size := 4, bytes := 40, agg := true, sl := none, arr := none, fs := [(0, 17), (1, 17), (2, 17), (3, 9)] }
theorem y124_ok : OKt Try.prog 124 y124 := ⟨by kernel_rfl, ⟨_, Try.underlying124, rfl, rfl, rfl, rfl, rfl, rfl, rfl⟩, (fun h => by cases h), rfl⟩
noncomputable def y125 : Ty := { z := (.agg #[(.pointer none), (.pointer none), (.pointer none), (.string ⟨#[]⟩)]), size := 4, bytes := 40, agg := true, sl := none, arr := none, fs := [(0, 17), (1, 17), (2, 17), (3, 9)] }
theorem y125_ok : OKt Try.prog 125 y125 := ⟨by kernel_rfl, ⟨_, Try.underlying125, rfl, rfl, rfl, rfl, rfl, rfl, rfl⟩, (fun h => by cases h), rfl⟩
noncomputable def y126 : Ty := { z := (.agg #[]), size := 0, bytes := 0, agg := true, sl := none, arr := some (0, 16), fs := [] }
theorem y126_ok : OKt Try.prog 126 y126 := ⟨by kernel_rfl, ⟨_, Try.underlying126, rfl, rfl, rfl, rfl, rfl, rfl, rfl⟩, (fun h => by cases h), rfl⟩
noncomputable def y127 : Ty := { z := (.agg #[]), size := 0, bytes := 0, agg := true, sl := none, arr := none, fs := [(0, 126)] }
theorem y127_ok : OKt Try.prog 127 y127 := ⟨by kernel_rfl, ⟨_, Try.underlying127, rfl, rfl, rfl, rfl, rfl, rfl, rfl⟩, (fun h => by cases h), rfl⟩
noncomputable def y128 : Ty := { z := (.agg #[]), size := 0, bytes := 0, agg := true, sl := none, arr := none, fs := [(0, 126)] }
theorem y128_ok : OKt Try.prog 128 y128 := ⟨by kernel_rfl, ⟨_, Try.underlying128, rfl, rfl, rfl, rfl, rfl, rfl, rfl⟩, (fun h => by cases h), rfl⟩
noncomputable def y129 : Ty := { z := .nilFunc, size := 1, bytes := 8, agg := false, sl := none, arr := none, fs := [] }
theorem y129_ok : OKt Try.prog 129 y129 := ⟨by kernel_rfl, ⟨_, Try.underlying129, rfl, rfl, rfl, rfl, rfl, rfl, rfl⟩, fun _ => rfl, rfl⟩
noncomputable def y130 : Ty := { z := (.int .u8 0), size := 1, bytes := 1, agg := false, sl := none, arr := none, fs := [], ik := some .u8 }
theorem y130_ok : OKt Try.prog 130 y130 := ⟨by kernel_rfl, ⟨_, Try.underlying130, rfl, rfl, rfl, rfl, rfl, rfl, rfl⟩, fun _ => rfl, rfl⟩
noncomputable def y131 : Ty := { z := (.int .u8 0), size := 1, bytes := 1, agg := false, sl := none, arr := none, fs := [], ik := some .u8 }
theorem y131_ok : OKt Try.prog 131 y131 := ⟨by kernel_rfl, ⟨_, Try.underlying131, rfl, rfl, rfl, rfl, rfl, rfl, rfl⟩, fun _ => rfl, rfl⟩
noncomputable def y132 : Ty := { z := .nilFunc, size := 1, bytes := 8, agg := false, sl := none, arr := none, fs := [] }
theorem y132_ok : OKt Try.prog 132 y132 := ⟨by kernel_rfl, ⟨_, Try.underlying132, rfl, rfl, rfl, rfl, rfl, rfl, rfl⟩, fun _ => rfl, rfl⟩
noncomputable def y133 : Ty := { z := (.pointer none), size := 1, bytes := 8, agg := false, sl := none, arr := none, fs := [] }
theorem y133_ok : OKt Try.prog 133 y133 := ⟨by kernel_rfl, ⟨_, Try.underlying133, rfl, rfl, rfl, rfl, rfl, rfl, rfl⟩, fun _ => rfl, rfl⟩
noncomputable def y134 : Ty := { z := (.int .i32 0), size := 1, bytes := 4, agg := false, sl := none, arr := none, fs := [], ik := some .i32 }
theorem y134_ok : OKt Try.prog 134 y134 := ⟨by kernel_rfl, ⟨_, Try.underlying134, rfl, rfl, rfl, rfl, rfl, rfl, rfl⟩, fun _ => rfl, rfl⟩
noncomputable def y135 : Ty := { z := (.int .i32 0), size := 1, bytes := 4, agg := false, sl := none, arr := none, fs := [], ik := some .i32 }
theorem y135_ok : OKt Try.prog 135 y135 := ⟨by kernel_rfl, ⟨_, Try.underlying135, rfl, rfl, rfl, rfl, rfl, rfl, rfl⟩, fun _ => rfl, rfl⟩
noncomputable def y136 : Ty := { z := (.agg #[(.int .u64 0), (.int .u64 0), (.int .u32 0), (.int .u8 0), (.int .u8 0), (.int .u8 0), (.int .u8 0), .nilFunc, (.pointer none), (.int .i32 0), (.int .i32 0)]), size := 11, bytes := 48, agg := true, sl := none, arr := none, fs := [(0, 12), (1, 12), (2, 112), (3, 130), (4, 5), (5, 5), (6, 131), (7, 132), (8, 133), (9, 134), (10, 135)] }
theorem y136_ok : OKt Try.prog 136 y136 := ⟨by kernel_rfl, ⟨_, Try.underlying136, rfl, rfl, rfl, rfl, rfl, rfl, rfl⟩, (fun h => by cases h), rfl⟩
noncomputable def y137 : Ty := { z := (.agg #[(.int .u64 0), (.int .u64 0), (.int .u32 0), (.int .u8 0), (.int .u8 0), (.int .u8 0), (.int .u8 0), .nilFunc, (.pointer none), (.int .i32 0), (.int .i32 0)]), size := 11, bytes := 48, agg := true, sl := none, arr := none, fs := [(0, 12), (1, 12), (2, 112), (3, 130), (4, 5), (5, 5), (6, 131), (7, 132), (8, 133), (9, 134), (10, 135)] }
theorem y137_ok : OKt Try.prog 137 y137 := ⟨by kernel_rfl, ⟨_, Try.underlying137, rfl, rfl, rfl, rfl, rfl, rfl, rfl⟩, (fun h => by cases h), rfl⟩
noncomputable def ty : TypeId → Ty
  | 1 => y1
  | 2 => y2
  | 3 => y3
  | 4 => y4
  | 5 => y5
  | 6 => y6
  | 7 => y7
  | 8 => y8
  | 9 => y9
  | 10 => y10
  | 11 => y11
  | 12 => y12
  | 13 => y13
  | 14 => y14
  | 15 => y15
  | 16 => y16
  | 17 => y17
  | 18 => y18
  | 19 => y19
  | 21 => y21
  | 22 => y22
  | 23 => y23
  | 24 => y24
  | 25 => y25
  | 26 => y26
  | 27 => y27
  | 28 => y28
  | 29 => y29
  | 31 => y31
  | 33 => y33
  | 34 => y34
  | 35 => y35
  | 36 => y36
  | 37 => y37
  | 38 => y38
  | 39 => y39
  | 40 => y40
  | 41 => y41
  | 42 => y42
  | 43 => y43
  | 44 => y44
  | 45 => y45
  | 46 => y46
  | 47 => y47
  | 48 => y48
  | 49 => y49
  | 50 => y50
  | 52 => y52
  | 53 => y53
  | 54 => y54
  | 55 => y55
  | 56 => y56
  | 57 => y57
  | 59 => y59
  | 60 => y60
  | 61 => y61
  | 62 => y62
  | 63 => y63
  | 64 => y64
  | 65 => y65
  | 66 => y66
  | 67 => y67
  | 68 => y68
  | 69 => y69
  | 70 => y70
  | 71 => y71
  | 72 => y72
  | 73 => y73
  | 74 => y74
  | 75 => y75
  | 76 => y76
  | 77 => y77
  | 78 => y78
  | 79 => y79
  | 80 => y80
  | 81 => y81
  | 82 => y82
  | 83 => y83
  | 84 => y84
  | 85 => y85
  | 86 => y86
  | 87 => y87
  | 89 => y89
  | 90 => y90
  | 91 => y91
  | 92 => y92
  | 93 => y93
  | 94 => y94
  | 95 => y95
  | 96 => y96
  | 97 => y97
  | 98 => y98
  | 99 => y99
  | 100 => y100
  | 101 => y101
  | 102 => y102
  | 103 => y103
  | 104 => y104
  | 105 => y105
  | 107 => y107
  | 108 => y108
  | 109 => y109
  | 110 => y110
  | 111 => y111
  | 112 => y112
  | 113 => y113
  | 114 => y114
  | 115 => y115
  | 116 => y116
  | 117 => y117
  | 118 => y118
  | 119 => y119
  | 120 => y120
  | 121 => y121
  | 122 => y122
  | 123 => y123
  | 124 => y124
  | 125 => y125
  | 126 => y126
  | 127 => y127
  | 128 => y128
  | 129 => y129
  | 130 => y130
  | 131 => y131
  | 132 => y132
  | 133 => y133
  | 134 => y134
  | 135 => y135
  | 136 => y136
  | 137 => y137
  | _ => Ty.none
theorem ty_ok : ∀ t, (ty t).ok = true → OKt Try.prog t (ty t) := by
  intro t h
  unfold ty at h ⊢
  split at h
  · exact y1_ok
  · exact y2_ok
  · exact y3_ok
  · exact y4_ok
  · exact y5_ok
  · exact y6_ok
  · exact y7_ok
  · exact y8_ok
  · exact y9_ok
  · exact y10_ok
  · exact y11_ok
  · exact y12_ok
  · exact y13_ok
  · exact y14_ok
  · exact y15_ok
  · exact y16_ok
  · exact y17_ok
  · exact y18_ok
  · exact y19_ok
  · exact y21_ok
  · exact y22_ok
  · exact y23_ok
  · exact y24_ok
  · exact y25_ok
  · exact y26_ok
  · exact y27_ok
  · exact y28_ok
  · exact y29_ok
  · exact y31_ok
  · exact y33_ok
  · exact y34_ok
  · exact y35_ok
  · exact y36_ok
  · exact y37_ok
  · exact y38_ok
  · exact y39_ok
  · exact y40_ok
  · exact y41_ok
  · exact y42_ok
  · exact y43_ok
  · exact y44_ok
  · exact y45_ok
  · exact y46_ok
  · exact y47_ok
  · exact y48_ok
  · exact y49_ok
  · exact y50_ok
  · exact y52_ok
  · exact y53_ok
  · exact y54_ok
  · exact y55_ok
  · exact y56_ok
  · exact y57_ok
  · exact y59_ok
  · exact y60_ok
  · exact y61_ok
  · exact y62_ok
  · exact y63_ok
  · exact y64_ok
  · exact y65_ok
  · exact y66_ok
  · exact y67_ok
  · exact y68_ok
  · exact y69_ok
  · exact y70_ok
  · exact y71_ok
  · exact y72_ok
  · exact y73_ok
  · exact y74_ok
  · exact y75_ok
  · exact y76_ok
  · exact y77_ok
  · exact y78_ok
  · exact y79_ok
  · exact y80_ok
  · exact y81_ok
  · exact y82_ok
  · exact y83_ok
  · exact y84_ok
  · exact y85_ok
  · exact y86_ok
  · exact y87_ok
  · exact y89_ok
  · exact y90_ok
  · exact y91_ok
  · exact y92_ok
  · exact y93_ok
  · exact y94_ok
  · exact y95_ok
  · exact y96_ok
  · exact y97_ok
  · exact y98_ok
  · exact y99_ok
  · exact y100_ok
  · exact y101_ok
  · exact y102_ok
  · exact y103_ok
  · exact y104_ok
  · exact y105_ok
  · exact y107_ok
  · exact y108_ok
  · exact y109_ok
  · exact y110_ok
  · exact y111_ok
  · exact y112_ok
  · exact y113_ok
  · exact y114_ok
  · exact y115_ok
  · exact y116_ok
  · exact y117_ok
  · exact y118_ok
  · exact y119_ok
  · exact y120_ok
  · exact y121_ok
  · exact y122_ok
  · exact y123_ok
  · exact y124_ok
  · exact y125_ok
  · exact y126_ok
  · exact y127_ok
  · exact y128_ok
  · exact y129_ok
  · exact y130_ok
  · exact y131_ok
  · exact y132_ok
  · exact y133_ok
  · exact y134_ok
  · exact y135_ok
  · exact y136_ok
  · exact y137_ok
  · cases h
noncomputable def C : Ctx := ⟨Try.prog, ty, ty_ok⟩
theorem C_P : C.P = Try.prog := rfl
theorem mixed : C.P.follows .mixedOrders = true := by kernel_rfl
@[go_sem] theorem t1ok : (C.ty 1).ok = true := rfl
@[go_sem] theorem t1size : (C.ty 1).size = 1 := rfl
@[go_sem] theorem t1bytes : (C.ty 1).bytes = 8 := rfl
@[go_sem] theorem t1agg : (C.ty 1).agg = false := rfl
@[go_sem] theorem t2ok : (C.ty 2).ok = true := rfl
@[go_sem] theorem t2size : (C.ty 2).size = 1 := rfl
@[go_sem] theorem t2bytes : (C.ty 2).bytes = 8 := rfl
@[go_sem] theorem t2agg : (C.ty 2).agg = false := rfl
@[go_sem] theorem t2ik : (C.ty 2).ik = some .i64 := rfl
@[go_sem] theorem t2z : zsOf (C.ty 2) = ((.int .i64 0) : Value).cells.toList.map cv1 := rfl
@[go_sem] theorem t3ok : (C.ty 3).ok = true := rfl
@[go_sem] theorem t3size : (C.ty 3).size = 1 := rfl
@[go_sem] theorem t3bytes : (C.ty 3).bytes = 8 := rfl
@[go_sem] theorem t3agg : (C.ty 3).agg = false := rfl
@[go_sem] theorem t3ik : (C.ty 3).ik = some .i64 := rfl
@[go_sem] theorem t3z : zsOf (C.ty 3) = ((.int .i64 0) : Value).cells.toList.map cv1 := rfl
@[go_sem] theorem t4ok : (C.ty 4).ok = true := rfl
@[go_sem] theorem t4size : (C.ty 4).size = 1 := rfl
@[go_sem] theorem t4bytes : (C.ty 4).bytes = 1 := rfl
@[go_sem] theorem t4agg : (C.ty 4).agg = false := rfl
@[go_sem] theorem t4bl : (C.ty 4).bl = true := rfl
@[go_sem] theorem t4z : zsOf (C.ty 4) = ((.bool false) : Value).cells.toList.map cv1 := rfl
@[go_sem] theorem t5ok : (C.ty 5).ok = true := rfl
@[go_sem] theorem t5size : (C.ty 5).size = 1 := rfl
@[go_sem] theorem t5bytes : (C.ty 5).bytes = 1 := rfl
@[go_sem] theorem t5agg : (C.ty 5).agg = false := rfl
@[go_sem] theorem t5ik : (C.ty 5).ik = some .u8 := rfl
@[go_sem] theorem t5z : zsOf (C.ty 5) = ((.int .u8 0) : Value).cells.toList.map cv1 := rfl
@[go_sem] theorem t6ok : (C.ty 6).ok = true := rfl
@[go_sem] theorem t6size : (C.ty 6).size = 1 := rfl
@[go_sem] theorem t6bytes : (C.ty 6).bytes = 1 := rfl
@[go_sem] theorem t6agg : (C.ty 6).agg = false := rfl
@[go_sem] theorem t6ik : (C.ty 6).ik = some .u8 := rfl
@[go_sem] theorem t6z : zsOf (C.ty 6) = ((.int .u8 0) : Value).cells.toList.map cv1 := rfl
@[go_sem] theorem t7ok : (C.ty 7).ok = true := rfl
@[go_sem] theorem t7size : (C.ty 7).size = 4 := rfl
@[go_sem] theorem t7bytes : (C.ty 7).bytes = 24 := rfl
@[go_sem] theorem t7agg : (C.ty 7).agg = true := rfl
@[go_sem] theorem t7fs : (C.ty 7).fs = [(0, 2), (1, 3), (2, 4), (3, 6)] := rfl
@[go_sem] theorem t7z : zsOf (C.ty 7) = ((.agg #[(.int .i64 0), (.int .i64 0), (.bool false), (.int .u8 0)]) : Value).cells.toList.map cv1 := rfl
@[go_sem] theorem t8ok : (C.ty 8).ok = true := rfl
@[go_sem] theorem t8size : (C.ty 8).size = 4 := rfl
@[go_sem] theorem t8bytes : (C.ty 8).bytes = 24 := rfl
@[go_sem] theorem t8agg : (C.ty 8).agg = true := rfl
@[go_sem] theorem t8fs : (C.ty 8).fs = [(0, 2), (1, 3), (2, 4), (3, 6)] := rfl
@[go_sem] theorem t8z : zsOf (C.ty 8) = ((.agg #[(.int .i64 0), (.int .i64 0), (.bool false), (.int .u8 0)]) : Value).cells.toList.map cv1 := rfl
@[go_sem] theorem t9ok : (C.ty 9).ok = true := rfl
@[go_sem] theorem t9size : (C.ty 9).size = 1 := rfl
@[go_sem] theorem t9bytes : (C.ty 9).bytes = 16 := rfl
@[go_sem] theorem t9agg : (C.ty 9).agg = false := rfl
@[go_sem] theorem t9str : (C.ty 9).str = true := rfl
@[go_sem] theorem t9z : zsOf (C.ty 9) = ((.string ⟨#[]⟩) : Value).cells.toList.map cv1 := rfl
@[go_sem] theorem t10ok : (C.ty 10).ok = true := rfl
@[go_sem] theorem t10size : (C.ty 10).size = 1 := rfl
@[go_sem] theorem t10bytes : (C.ty 10).bytes = 16 := rfl
@[go_sem] theorem t10agg : (C.ty 10).agg = false := rfl
@[go_sem] theorem t10str : (C.ty 10).str = true := rfl
@[go_sem] theorem t10z : zsOf (C.ty 10) = ((.string ⟨#[]⟩) : Value).cells.toList.map cv1 := rfl
@[go_sem] theorem t11ok : (C.ty 11).ok = true := rfl
@[go_sem] theorem t11size : (C.ty 11).size = 1 := rfl
@[go_sem] theorem t11bytes : (C.ty 11).bytes = 16 := rfl
@[go_sem] theorem t11agg : (C.ty 11).agg = false := rfl
@[go_sem] theorem t11str : (C.ty 11).str = true := rfl
@[go_sem] theorem t11z : zsOf (C.ty 11) = ((.string ⟨#[]⟩) : Value).cells.toList.map cv1 := rfl
@[go_sem] theorem t12ok : (C.ty 12).ok = true := rfl
@[go_sem] theorem t12size : (C.ty 12).size = 1 := rfl
@[go_sem] theorem t12bytes : (C.ty 12).bytes = 8 := rfl
@[go_sem] theorem t12agg : (C.ty 12).agg = false := rfl
@[go_sem] theorem t12ik : (C.ty 12).ik = some .u64 := rfl
@[go_sem] theorem t12z : zsOf (C.ty 12) = ((.int .u64 0) : Value).cells.toList.map cv1 := rfl
@[go_sem] theorem t13ok : (C.ty 13).ok = true := rfl
@[go_sem] theorem t13size : (C.ty 13).size = 2 := rfl
@[go_sem] theorem t13bytes : (C.ty 13).bytes = 24 := rfl
@[go_sem] theorem t13agg : (C.ty 13).agg = true := rfl
@[go_sem] theorem t13fs : (C.ty 13).fs = [(0, 9), (1, 12)] := rfl
@[go_sem] theorem t13z : zsOf (C.ty 13) = ((.agg #[(.string ⟨#[]⟩), (.int .u64 0)]) : Value).cells.toList.map cv1 := rfl
@[go_sem] theorem t14ok : (C.ty 14).ok = true := rfl
@[go_sem] theorem t14size : (C.ty 14).size = 2 := rfl
@[go_sem] theorem t14bytes : (C.ty 14).bytes = 24 := rfl
@[go_sem] theorem t14agg : (C.ty 14).agg = true := rfl
@[go_sem] theorem t14fs : (C.ty 14).fs = [(0, 9), (1, 12)] := rfl
@[go_sem] theorem t14z : zsOf (C.ty 14) = ((.agg #[(.string ⟨#[]⟩), (.int .u64 0)]) : Value).cells.toList.map cv1 := rfl
@[go_sem] theorem t15ok : (C.ty 15).ok = true := rfl
@[go_sem] theorem t15size : (C.ty 15).size = 1 := rfl
@[go_sem] theorem t15bytes : (C.ty 15).bytes = 8 := rfl
@[go_sem] theorem t15agg : (C.ty 15).agg = false := rfl
@[go_sem] theorem t15z : zsOf (C.ty 15) = ((.pointer none) : Value).cells.toList.map cv1 := rfl
@[go_sem] theorem t16ok : (C.ty 16).ok = true := rfl
@[go_sem] theorem t16size : (C.ty 16).size = 1 := rfl
@[go_sem] theorem t16bytes : (C.ty 16).bytes = 8 := rfl
@[go_sem] theorem t16agg : (C.ty 16).agg = false := rfl
@[go_sem] theorem t16z : zsOf (C.ty 16) = ((.pointer none) : Value).cells.toList.map cv1 := rfl
@[go_sem] theorem t17ok : (C.ty 17).ok = true := rfl
@[go_sem] theorem t17size : (C.ty 17).size = 1 := rfl
@[go_sem] theorem t17bytes : (C.ty 17).bytes = 8 := rfl
@[go_sem] theorem t17agg : (C.ty 17).agg = false := rfl
@[go_sem] theorem t17z : zsOf (C.ty 17) = ((.pointer none) : Value).cells.toList.map cv1 := rfl
@[go_sem] theorem t18ok : (C.ty 18).ok = true := rfl
@[go_sem] theorem t18size : (C.ty 18).size = 1 := rfl
@[go_sem] theorem t18bytes : (C.ty 18).bytes = 8 := rfl
@[go_sem] theorem t18agg : (C.ty 18).agg = true := rfl
@[go_sem] theorem t18fs : (C.ty 18).fs = [(0, 17)] := rfl
@[go_sem] theorem t18z : zsOf (C.ty 18) = ((.agg #[(.pointer none)]) : Value).cells.toList.map cv1 := rfl
@[go_sem] theorem t19ok : (C.ty 19).ok = true := rfl
@[go_sem] theorem t19size : (C.ty 19).size = 1 := rfl
@[go_sem] theorem t19bytes : (C.ty 19).bytes = 8 := rfl
@[go_sem] theorem t19agg : (C.ty 19).agg = true := rfl
@[go_sem] theorem t19fs : (C.ty 19).fs = [(0, 17)] := rfl
@[go_sem] theorem t19z : zsOf (C.ty 19) = ((.agg #[(.pointer none)]) : Value).cells.toList.map cv1 := rfl
@[go_sem] theorem t21ok : (C.ty 21).ok = true := rfl
@[go_sem] theorem t21size : (C.ty 21).size = 1 := rfl
@[go_sem] theorem t21bytes : (C.ty 21).bytes = 4 := rfl
@[go_sem] theorem t21agg : (C.ty 21).agg = false := rfl
@[go_sem] theorem t21ik : (C.ty 21).ik = some .i32 := rfl
@[go_sem] theorem t21z : zsOf (C.ty 21) = ((.int .i32 0) : Value).cells.toList.map cv1 := rfl
@[go_sem] theorem t22ok : (C.ty 22).ok = true := rfl
@[go_sem] theorem t22size : (C.ty 22).size = 1 := rfl
@[go_sem] theorem t22bytes : (C.ty 22).bytes = 8 := rfl
@[go_sem] theorem t22agg : (C.ty 22).agg = false := rfl
@[go_sem] theorem t22ik : (C.ty 22).ik = some .i64 := rfl
@[go_sem] theorem t22z : zsOf (C.ty 22) = ((.int .i64 0) : Value).cells.toList.map cv1 := rfl
@[go_sem] theorem t23ok : (C.ty 23).ok = true := rfl
@[go_sem] theorem t23size : (C.ty 23).size = 1 := rfl
@[go_sem] theorem t23bytes : (C.ty 23).bytes = 24 := rfl
@[go_sem] theorem t23agg : (C.ty 23).agg = false := rfl
@[go_sem] theorem t23sl : (C.ty 23).sl = some 3 := rfl
@[go_sem] theorem t23z : zsOf (C.ty 23) = ((.slice none 0 0) : Value).cells.toList.map cv1 := rfl
@[go_sem] theorem t24ok : (C.ty 24).ok = true := rfl
@[go_sem] theorem t24size : (C.ty 24).size = 3 := rfl
@[go_sem] theorem t24bytes : (C.ty 24).bytes = 56 := rfl
@[go_sem] theorem t24agg : (C.ty 24).agg = true := rfl
@[go_sem] theorem t24fs : (C.ty 24).fs = [(0, 22), (1, 23), (2, 23)] := rfl
@[go_sem] theorem t24z : zsOf (C.ty 24) = ((.agg #[(.int .i64 0), (.slice none 0 0), (.slice none 0 0)]) : Value).cells.toList.map cv1 := rfl
@[go_sem] theorem t25ok : (C.ty 25).ok = true := rfl
@[go_sem] theorem t25size : (C.ty 25).size = 3 := rfl
@[go_sem] theorem t25bytes : (C.ty 25).bytes = 56 := rfl
@[go_sem] theorem t25agg : (C.ty 25).agg = true := rfl
@[go_sem] theorem t25fs : (C.ty 25).fs = [(0, 22), (1, 23), (2, 23)] := rfl
@[go_sem] theorem t25z : zsOf (C.ty 25) = ((.agg #[(.int .i64 0), (.slice none 0 0), (.slice none 0 0)]) : Value).cells.toList.map cv1 := rfl
@[go_sem] theorem t26ok : (C.ty 26).ok = true := rfl
@[go_sem] theorem t26size : (C.ty 26).size = 1 := rfl
@[go_sem] theorem t26bytes : (C.ty 26).bytes = 24 := rfl
@[go_sem] theorem t26agg : (C.ty 26).agg = false := rfl
@[go_sem] theorem t26sl : (C.ty 26).sl = some 28 := rfl
@[go_sem] theorem t26z : zsOf (C.ty 26) = ((.slice none 0 0) : Value).cells.toList.map cv1 := rfl
@[go_sem] theorem t27ok : (C.ty 27).ok = true := rfl
@[go_sem] theorem t27size : (C.ty 27).size = 1 := rfl
@[go_sem] theorem t27bytes : (C.ty 27).bytes = 8 := rfl
@[go_sem] theorem t27agg : (C.ty 27).agg = false := rfl
@[go_sem] theorem t28ok : (C.ty 28).ok = true := rfl
@[go_sem] theorem t28size : (C.ty 28).size = 1 := rfl
@[go_sem] theorem t28bytes : (C.ty 28).bytes = 24 := rfl
@[go_sem] theorem t28agg : (C.ty 28).agg = false := rfl
@[go_sem] theorem t28sl : (C.ty 28).sl = some 3 := rfl
@[go_sem] theorem t28z : zsOf (C.ty 28) = ((.slice none 0 0) : Value).cells.toList.map cv1 := rfl
@[go_sem] theorem t29ok : (C.ty 29).ok = true := rfl
@[go_sem] theorem t29size : (C.ty 29).size = 1 := rfl
@[go_sem] theorem t29bytes : (C.ty 29).bytes = 8 := rfl
@[go_sem] theorem t29agg : (C.ty 29).agg = false := rfl
@[go_sem] theorem t29ik : (C.ty 29).ik = some .i64 := rfl
@[go_sem] theorem t29z : zsOf (C.ty 29) = ((.int .i64 0) : Value).cells.toList.map cv1 := rfl
@[go_sem] theorem t31ok : (C.ty 31).ok = true := rfl
@[go_sem] theorem t31size : (C.ty 31).size = 1 := rfl
@[go_sem] theorem t31bytes : (C.ty 31).bytes = 8 := rfl
@[go_sem] theorem t31agg : (C.ty 31).agg = false := rfl
@[go_sem] theorem t33ok : (C.ty 33).ok = true := rfl
@[go_sem] theorem t33size : (C.ty 33).size = 1 := rfl
@[go_sem] theorem t33bytes : (C.ty 33).bytes = 8 := rfl
@[go_sem] theorem t33agg : (C.ty 33).agg = false := rfl
@[go_sem] theorem t34ok : (C.ty 34).ok = true := rfl
@[go_sem] theorem t34size : (C.ty 34).size = 1 := rfl
@[go_sem] theorem t34bytes : (C.ty 34).bytes = 24 := rfl
@[go_sem] theorem t34agg : (C.ty 34).agg = false := rfl
@[go_sem] theorem t34sl : (C.ty 34).sl = some 23 := rfl
@[go_sem] theorem t34z : zsOf (C.ty 34) = ((.slice none 0 0) : Value).cells.toList.map cv1 := rfl
@[go_sem] theorem t35ok : (C.ty 35).ok = true := rfl
@[go_sem] theorem t35size : (C.ty 35).size = 1 := rfl
@[go_sem] theorem t35bytes : (C.ty 35).bytes = 8 := rfl
@[go_sem] theorem t35agg : (C.ty 35).agg = false := rfl
@[go_sem] theorem t36ok : (C.ty 36).ok = true := rfl
@[go_sem] theorem t36size : (C.ty 36).size = 1 := rfl
@[go_sem] theorem t36bytes : (C.ty 36).bytes = 8 := rfl
@[go_sem] theorem t36agg : (C.ty 36).agg = false := rfl
@[go_sem] theorem t37ok : (C.ty 37).ok = true := rfl
@[go_sem] theorem t37size : (C.ty 37).size = 1 := rfl
@[go_sem] theorem t37bytes : (C.ty 37).bytes = 8 := rfl
@[go_sem] theorem t37agg : (C.ty 37).agg = false := rfl
@[go_sem] theorem t38ok : (C.ty 38).ok = true := rfl
@[go_sem] theorem t38size : (C.ty 38).size = 1 := rfl
@[go_sem] theorem t38bytes : (C.ty 38).bytes = 8 := rfl
@[go_sem] theorem t38agg : (C.ty 38).agg = false := rfl
@[go_sem] theorem t39ok : (C.ty 39).ok = true := rfl
@[go_sem] theorem t39size : (C.ty 39).size = 1 := rfl
@[go_sem] theorem t39bytes : (C.ty 39).bytes = 8 := rfl
@[go_sem] theorem t39agg : (C.ty 39).agg = false := rfl
@[go_sem] theorem t40ok : (C.ty 40).ok = true := rfl
@[go_sem] theorem t40size : (C.ty 40).size = 1 := rfl
@[go_sem] theorem t40bytes : (C.ty 40).bytes = 8 := rfl
@[go_sem] theorem t40agg : (C.ty 40).agg = false := rfl
@[go_sem] theorem t41ok : (C.ty 41).ok = true := rfl
@[go_sem] theorem t41size : (C.ty 41).size = 1 := rfl
@[go_sem] theorem t41bytes : (C.ty 41).bytes = 8 := rfl
@[go_sem] theorem t41agg : (C.ty 41).agg = false := rfl
@[go_sem] theorem t42ok : (C.ty 42).ok = true := rfl
@[go_sem] theorem t42size : (C.ty 42).size = 1 := rfl
@[go_sem] theorem t42bytes : (C.ty 42).bytes = 8 := rfl
@[go_sem] theorem t42agg : (C.ty 42).agg = false := rfl
@[go_sem] theorem t43ok : (C.ty 43).ok = true := rfl
@[go_sem] theorem t43size : (C.ty 43).size = 1 := rfl
@[go_sem] theorem t43bytes : (C.ty 43).bytes = 8 := rfl
@[go_sem] theorem t43agg : (C.ty 43).agg = false := rfl
@[go_sem] theorem t44ok : (C.ty 44).ok = true := rfl
@[go_sem] theorem t44size : (C.ty 44).size = 1 := rfl
@[go_sem] theorem t44bytes : (C.ty 44).bytes = 8 := rfl
@[go_sem] theorem t44agg : (C.ty 44).agg = false := rfl
@[go_sem] theorem t45ok : (C.ty 45).ok = true := rfl
@[go_sem] theorem t45size : (C.ty 45).size = 1 := rfl
@[go_sem] theorem t45bytes : (C.ty 45).bytes = 8 := rfl
@[go_sem] theorem t45agg : (C.ty 45).agg = false := rfl
@[go_sem] theorem t46ok : (C.ty 46).ok = true := rfl
@[go_sem] theorem t46size : (C.ty 46).size = 1 := rfl
@[go_sem] theorem t46bytes : (C.ty 46).bytes = 8 := rfl
@[go_sem] theorem t46agg : (C.ty 46).agg = false := rfl
@[go_sem] theorem t47ok : (C.ty 47).ok = true := rfl
@[go_sem] theorem t47size : (C.ty 47).size = 1 := rfl
@[go_sem] theorem t47bytes : (C.ty 47).bytes = 8 := rfl
@[go_sem] theorem t47agg : (C.ty 47).agg = false := rfl
@[go_sem] theorem t48ok : (C.ty 48).ok = true := rfl
@[go_sem] theorem t48size : (C.ty 48).size = 1 := rfl
@[go_sem] theorem t48bytes : (C.ty 48).bytes = 8 := rfl
@[go_sem] theorem t48agg : (C.ty 48).agg = false := rfl
@[go_sem] theorem t49ok : (C.ty 49).ok = true := rfl
@[go_sem] theorem t49size : (C.ty 49).size = 1 := rfl
@[go_sem] theorem t49bytes : (C.ty 49).bytes = 8 := rfl
@[go_sem] theorem t49agg : (C.ty 49).agg = false := rfl
@[go_sem] theorem t50ok : (C.ty 50).ok = true := rfl
@[go_sem] theorem t50size : (C.ty 50).size = 1 := rfl
@[go_sem] theorem t50bytes : (C.ty 50).bytes = 8 := rfl
@[go_sem] theorem t50agg : (C.ty 50).agg = false := rfl
@[go_sem] theorem t52ok : (C.ty 52).ok = true := rfl
@[go_sem] theorem t52size : (C.ty 52).size = 1 := rfl
@[go_sem] theorem t52bytes : (C.ty 52).bytes = 8 := rfl
@[go_sem] theorem t52agg : (C.ty 52).agg = false := rfl
@[go_sem] theorem t53ok : (C.ty 53).ok = true := rfl
@[go_sem] theorem t53size : (C.ty 53).size = 1 := rfl
@[go_sem] theorem t53bytes : (C.ty 53).bytes = 8 := rfl
@[go_sem] theorem t53agg : (C.ty 53).agg = false := rfl
@[go_sem] theorem t54ok : (C.ty 54).ok = true := rfl
@[go_sem] theorem t54size : (C.ty 54).size = 1 := rfl
@[go_sem] theorem t54bytes : (C.ty 54).bytes = 8 := rfl
@[go_sem] theorem t54agg : (C.ty 54).agg = false := rfl
@[go_sem] theorem t55ok : (C.ty 55).ok = true := rfl
@[go_sem] theorem t55size : (C.ty 55).size = 1 := rfl
@[go_sem] theorem t55bytes : (C.ty 55).bytes = 8 := rfl
@[go_sem] theorem t55agg : (C.ty 55).agg = false := rfl
@[go_sem] theorem t56ok : (C.ty 56).ok = true := rfl
@[go_sem] theorem t56size : (C.ty 56).size = 8 := rfl
@[go_sem] theorem t56bytes : (C.ty 56).bytes = 72 := rfl
@[go_sem] theorem t56agg : (C.ty 56).agg = true := rfl
@[go_sem] theorem t56fs : (C.ty 56).fs = [(0, 22), (1, 9), (2, 3), (3, 3), (4, 3), (5, 3), (6, 55), (7, 3)] := rfl
@[go_sem] theorem t56z : zsOf (C.ty 56) = ((.agg #[(.int .i64 0), (.string ⟨#[]⟩), (.int .i64 0), (.int .i64 0), (.int .i64 0), (.int .i64 0), .nilFunc, (.int .i64 0)]) : Value).cells.toList.map cv1 := rfl
@[go_sem] theorem t57ok : (C.ty 57).ok = true := rfl
@[go_sem] theorem t57size : (C.ty 57).size = 8 := rfl
@[go_sem] theorem t57bytes : (C.ty 57).bytes = 72 := rfl
@[go_sem] theorem t57agg : (C.ty 57).agg = true := rfl
@[go_sem] theorem t57fs : (C.ty 57).fs = [(0, 22), (1, 9), (2, 3), (3, 3), (4, 3), (5, 3), (6, 55), (7, 3)] := rfl
@[go_sem] theorem t57z : zsOf (C.ty 57) = ((.agg #[(.int .i64 0), (.string ⟨#[]⟩), (.int .i64 0), (.int .i64 0), (.int .i64 0), (.int .i64 0), .nilFunc, (.int .i64 0)]) : Value).cells.toList.map cv1 := rfl
@[go_sem] theorem t59ok : (C.ty 59).ok = true := rfl
@[go_sem] theorem t59size : (C.ty 59).size = 1 := rfl
@[go_sem] theorem t59bytes : (C.ty 59).bytes = 8 := rfl
@[go_sem] theorem t59agg : (C.ty 59).agg = false := rfl
@[go_sem] theorem t60ok : (C.ty 60).ok = true := rfl
@[go_sem] theorem t60size : (C.ty 60).size = 1 := rfl
@[go_sem] theorem t60bytes : (C.ty 60).bytes = 8 := rfl
@[go_sem] theorem t60agg : (C.ty 60).agg = false := rfl
@[go_sem] theorem t61ok : (C.ty 61).ok = true := rfl
@[go_sem] theorem t61size : (C.ty 61).size = 1 := rfl
@[go_sem] theorem t61bytes : (C.ty 61).bytes = 8 := rfl
@[go_sem] theorem t61agg : (C.ty 61).agg = false := rfl
@[go_sem] theorem t62ok : (C.ty 62).ok = true := rfl
@[go_sem] theorem t62size : (C.ty 62).size = 1 := rfl
@[go_sem] theorem t62bytes : (C.ty 62).bytes = 8 := rfl
@[go_sem] theorem t62agg : (C.ty 62).agg = false := rfl
@[go_sem] theorem t63ok : (C.ty 63).ok = true := rfl
@[go_sem] theorem t63size : (C.ty 63).size = 1 := rfl
@[go_sem] theorem t63bytes : (C.ty 63).bytes = 8 := rfl
@[go_sem] theorem t63agg : (C.ty 63).agg = false := rfl
@[go_sem] theorem t64ok : (C.ty 64).ok = true := rfl
@[go_sem] theorem t64size : (C.ty 64).size = 1 := rfl
@[go_sem] theorem t64bytes : (C.ty 64).bytes = 8 := rfl
@[go_sem] theorem t64agg : (C.ty 64).agg = false := rfl
@[go_sem] theorem t65ok : (C.ty 65).ok = true := rfl
@[go_sem] theorem t65size : (C.ty 65).size = 1 := rfl
@[go_sem] theorem t65bytes : (C.ty 65).bytes = 8 := rfl
@[go_sem] theorem t65agg : (C.ty 65).agg = false := rfl
@[go_sem] theorem t66ok : (C.ty 66).ok = true := rfl
@[go_sem] theorem t66size : (C.ty 66).size = 1 := rfl
@[go_sem] theorem t66bytes : (C.ty 66).bytes = 8 := rfl
@[go_sem] theorem t66agg : (C.ty 66).agg = false := rfl
@[go_sem] theorem t67ok : (C.ty 67).ok = true := rfl
@[go_sem] theorem t67size : (C.ty 67).size = 1 := rfl
@[go_sem] theorem t67bytes : (C.ty 67).bytes = 8 := rfl
@[go_sem] theorem t67agg : (C.ty 67).agg = false := rfl
@[go_sem] theorem t68ok : (C.ty 68).ok = true := rfl
@[go_sem] theorem t68size : (C.ty 68).size = 1 := rfl
@[go_sem] theorem t68bytes : (C.ty 68).bytes = 8 := rfl
@[go_sem] theorem t68agg : (C.ty 68).agg = false := rfl
@[go_sem] theorem t69ok : (C.ty 69).ok = true := rfl
@[go_sem] theorem t69size : (C.ty 69).size = 1 := rfl
@[go_sem] theorem t69bytes : (C.ty 69).bytes = 8 := rfl
@[go_sem] theorem t69agg : (C.ty 69).agg = false := rfl
@[go_sem] theorem t70ok : (C.ty 70).ok = true := rfl
@[go_sem] theorem t70size : (C.ty 70).size = 1 := rfl
@[go_sem] theorem t70bytes : (C.ty 70).bytes = 8 := rfl
@[go_sem] theorem t70agg : (C.ty 70).agg = false := rfl
@[go_sem] theorem t71ok : (C.ty 71).ok = true := rfl
@[go_sem] theorem t71size : (C.ty 71).size = 1 := rfl
@[go_sem] theorem t71bytes : (C.ty 71).bytes = 8 := rfl
@[go_sem] theorem t71agg : (C.ty 71).agg = false := rfl
@[go_sem] theorem t72ok : (C.ty 72).ok = true := rfl
@[go_sem] theorem t72size : (C.ty 72).size = 1 := rfl
@[go_sem] theorem t72bytes : (C.ty 72).bytes = 8 := rfl
@[go_sem] theorem t72agg : (C.ty 72).agg = false := rfl
@[go_sem] theorem t73ok : (C.ty 73).ok = true := rfl
@[go_sem] theorem t73size : (C.ty 73).size = 1 := rfl
@[go_sem] theorem t73bytes : (C.ty 73).bytes = 8 := rfl
@[go_sem] theorem t73agg : (C.ty 73).agg = false := rfl
@[go_sem] theorem t74ok : (C.ty 74).ok = true := rfl
@[go_sem] theorem t74size : (C.ty 74).size = 1 := rfl
@[go_sem] theorem t74bytes : (C.ty 74).bytes = 8 := rfl
@[go_sem] theorem t74agg : (C.ty 74).agg = false := rfl
@[go_sem] theorem t75ok : (C.ty 75).ok = true := rfl
@[go_sem] theorem t75size : (C.ty 75).size = 1 := rfl
@[go_sem] theorem t75bytes : (C.ty 75).bytes = 8 := rfl
@[go_sem] theorem t75agg : (C.ty 75).agg = false := rfl
@[go_sem] theorem t76ok : (C.ty 76).ok = true := rfl
@[go_sem] theorem t76size : (C.ty 76).size = 1 := rfl
@[go_sem] theorem t76bytes : (C.ty 76).bytes = 8 := rfl
@[go_sem] theorem t76agg : (C.ty 76).agg = false := rfl
@[go_sem] theorem t77ok : (C.ty 77).ok = true := rfl
@[go_sem] theorem t77size : (C.ty 77).size = 1 := rfl
@[go_sem] theorem t77bytes : (C.ty 77).bytes = 8 := rfl
@[go_sem] theorem t77agg : (C.ty 77).agg = false := rfl
@[go_sem] theorem t78ok : (C.ty 78).ok = true := rfl
@[go_sem] theorem t78size : (C.ty 78).size = 1 := rfl
@[go_sem] theorem t78bytes : (C.ty 78).bytes = 8 := rfl
@[go_sem] theorem t78agg : (C.ty 78).agg = false := rfl
@[go_sem] theorem t79ok : (C.ty 79).ok = true := rfl
@[go_sem] theorem t79size : (C.ty 79).size = 1 := rfl
@[go_sem] theorem t79bytes : (C.ty 79).bytes = 8 := rfl
@[go_sem] theorem t79agg : (C.ty 79).agg = false := rfl
@[go_sem] theorem t80ok : (C.ty 80).ok = true := rfl
@[go_sem] theorem t80size : (C.ty 80).size = 1 := rfl
@[go_sem] theorem t80bytes : (C.ty 80).bytes = 8 := rfl
@[go_sem] theorem t80agg : (C.ty 80).agg = false := rfl
@[go_sem] theorem t81ok : (C.ty 81).ok = true := rfl
@[go_sem] theorem t81size : (C.ty 81).size = 1 := rfl
@[go_sem] theorem t81bytes : (C.ty 81).bytes = 8 := rfl
@[go_sem] theorem t81agg : (C.ty 81).agg = false := rfl
@[go_sem] theorem t82ok : (C.ty 82).ok = true := rfl
@[go_sem] theorem t82size : (C.ty 82).size = 1 := rfl
@[go_sem] theorem t82bytes : (C.ty 82).bytes = 8 := rfl
@[go_sem] theorem t82agg : (C.ty 82).agg = false := rfl
@[go_sem] theorem t83ok : (C.ty 83).ok = true := rfl
@[go_sem] theorem t83size : (C.ty 83).size = 1 := rfl
@[go_sem] theorem t83bytes : (C.ty 83).bytes = 8 := rfl
@[go_sem] theorem t83agg : (C.ty 83).agg = false := rfl
@[go_sem] theorem t84ok : (C.ty 84).ok = true := rfl
@[go_sem] theorem t84size : (C.ty 84).size = 1 := rfl
@[go_sem] theorem t84bytes : (C.ty 84).bytes = 8 := rfl
@[go_sem] theorem t84agg : (C.ty 84).agg = false := rfl
@[go_sem] theorem t85ok : (C.ty 85).ok = true := rfl
@[go_sem] theorem t85size : (C.ty 85).size = 1 := rfl
@[go_sem] theorem t85bytes : (C.ty 85).bytes = 8 := rfl
@[go_sem] theorem t85agg : (C.ty 85).agg = false := rfl
@[go_sem] theorem t86ok : (C.ty 86).ok = true := rfl
@[go_sem] theorem t86size : (C.ty 86).size = 1 := rfl
@[go_sem] theorem t86bytes : (C.ty 86).bytes = 8 := rfl
@[go_sem] theorem t86agg : (C.ty 86).agg = false := rfl
@[go_sem] theorem t87ok : (C.ty 87).ok = true := rfl
@[go_sem] theorem t87size : (C.ty 87).size = 1 := rfl
@[go_sem] theorem t87bytes : (C.ty 87).bytes = 8 := rfl
@[go_sem] theorem t87agg : (C.ty 87).agg = false := rfl
@[go_sem] theorem t89ok : (C.ty 89).ok = true := rfl
@[go_sem] theorem t89size : (C.ty 89).size = 1 := rfl
@[go_sem] theorem t89bytes : (C.ty 89).bytes = 8 := rfl
@[go_sem] theorem t89agg : (C.ty 89).agg = false := rfl
@[go_sem] theorem t90ok : (C.ty 90).ok = true := rfl
@[go_sem] theorem t90size : (C.ty 90).size = 1 := rfl
@[go_sem] theorem t90bytes : (C.ty 90).bytes = 8 := rfl
@[go_sem] theorem t90agg : (C.ty 90).agg = false := rfl
@[go_sem] theorem t91ok : (C.ty 91).ok = true := rfl
@[go_sem] theorem t91size : (C.ty 91).size = 1 := rfl
@[go_sem] theorem t91bytes : (C.ty 91).bytes = 24 := rfl
@[go_sem] theorem t91agg : (C.ty 91).agg = false := rfl
@[go_sem] theorem t91sl : (C.ty 91).sl = some 57 := rfl
@[go_sem] theorem t91z : zsOf (C.ty 91) = ((.slice none 0 0) : Value).cells.toList.map cv1 := rfl
@[go_sem] theorem t92ok : (C.ty 92).ok = true := rfl
@[go_sem] theorem t92size : (C.ty 92).size = 1 := rfl
@[go_sem] theorem t92bytes : (C.ty 92).bytes = 8 := rfl
@[go_sem] theorem t92agg : (C.ty 92).agg = false := rfl
@[go_sem] theorem t93ok : (C.ty 93).ok = true := rfl
@[go_sem] theorem t93size : (C.ty 93).size = 1 := rfl
@[go_sem] theorem t93bytes : (C.ty 93).bytes = 8 := rfl
@[go_sem] theorem t93agg : (C.ty 93).agg = false := rfl
@[go_sem] theorem t94ok : (C.ty 94).ok = true := rfl
@[go_sem] theorem t94size : (C.ty 94).size = 1 := rfl
@[go_sem] theorem t94bytes : (C.ty 94).bytes = 8 := rfl
@[go_sem] theorem t94agg : (C.ty 94).agg = false := rfl
@[go_sem] theorem t95ok : (C.ty 95).ok = true := rfl
@[go_sem] theorem t95size : (C.ty 95).size = 1 := rfl
@[go_sem] theorem t95bytes : (C.ty 95).bytes = 8 := rfl
@[go_sem] theorem t95agg : (C.ty 95).agg = false := rfl
@[go_sem] theorem t96ok : (C.ty 96).ok = true := rfl
@[go_sem] theorem t96size : (C.ty 96).size = 1 := rfl
@[go_sem] theorem t96bytes : (C.ty 96).bytes = 8 := rfl
@[go_sem] theorem t96agg : (C.ty 96).agg = false := rfl
@[go_sem] theorem t97ok : (C.ty 97).ok = true := rfl
@[go_sem] theorem t97size : (C.ty 97).size = 1 := rfl
@[go_sem] theorem t97bytes : (C.ty 97).bytes = 8 := rfl
@[go_sem] theorem t97agg : (C.ty 97).agg = false := rfl
@[go_sem] theorem t98ok : (C.ty 98).ok = true := rfl
@[go_sem] theorem t98size : (C.ty 98).size = 1 := rfl
@[go_sem] theorem t98bytes : (C.ty 98).bytes = 8 := rfl
@[go_sem] theorem t98agg : (C.ty 98).agg = false := rfl
@[go_sem] theorem t99ok : (C.ty 99).ok = true := rfl
@[go_sem] theorem t99size : (C.ty 99).size = 1 := rfl
@[go_sem] theorem t99bytes : (C.ty 99).bytes = 8 := rfl
@[go_sem] theorem t99agg : (C.ty 99).agg = false := rfl
@[go_sem] theorem t100ok : (C.ty 100).ok = true := rfl
@[go_sem] theorem t100size : (C.ty 100).size = 1 := rfl
@[go_sem] theorem t100bytes : (C.ty 100).bytes = 8 := rfl
@[go_sem] theorem t100agg : (C.ty 100).agg = false := rfl
@[go_sem] theorem t101ok : (C.ty 101).ok = true := rfl
@[go_sem] theorem t101size : (C.ty 101).size = 1 := rfl
@[go_sem] theorem t101bytes : (C.ty 101).bytes = 8 := rfl
@[go_sem] theorem t101agg : (C.ty 101).agg = false := rfl
@[go_sem] theorem t102ok : (C.ty 102).ok = true := rfl
@[go_sem] theorem t102size : (C.ty 102).size = 1 := rfl
@[go_sem] theorem t102bytes : (C.ty 102).bytes = 8 := rfl
@[go_sem] theorem t102agg : (C.ty 102).agg = false := rfl
@[go_sem] theorem t103ok : (C.ty 103).ok = true := rfl
@[go_sem] theorem t103size : (C.ty 103).size = 1 := rfl
@[go_sem] theorem t103bytes : (C.ty 103).bytes = 8 := rfl
@[go_sem] theorem t103agg : (C.ty 103).agg = false := rfl
@[go_sem] theorem t103ik : (C.ty 103).ik = some .u64 := rfl
@[go_sem] theorem t103z : zsOf (C.ty 103) = ((.int .u64 0) : Value).cells.toList.map cv1 := rfl
@[go_sem] theorem t104ok : (C.ty 104).ok = true := rfl
@[go_sem] theorem t104size : (C.ty 104).size = 1 := rfl
@[go_sem] theorem t104bytes : (C.ty 104).bytes = 8 := rfl
@[go_sem] theorem t104agg : (C.ty 104).agg = false := rfl
@[go_sem] theorem t105ok : (C.ty 105).ok = true := rfl
@[go_sem] theorem t105size : (C.ty 105).size = 1 := rfl
@[go_sem] theorem t105bytes : (C.ty 105).bytes = 8 := rfl
@[go_sem] theorem t105agg : (C.ty 105).agg = false := rfl
@[go_sem] theorem t105ik : (C.ty 105).ik = some .i64 := rfl
@[go_sem] theorem t105z : zsOf (C.ty 105) = ((.int .i64 0) : Value).cells.toList.map cv1 := rfl
@[go_sem] theorem t107ok : (C.ty 107).ok = true := rfl
@[go_sem] theorem t107size : (C.ty 107).size = 1 := rfl
@[go_sem] theorem t107bytes : (C.ty 107).bytes = 8 := rfl
@[go_sem] theorem t107agg : (C.ty 107).agg = false := rfl
@[go_sem] theorem t108ok : (C.ty 108).ok = true := rfl
@[go_sem] theorem t108size : (C.ty 108).size = 1 := rfl
@[go_sem] theorem t108bytes : (C.ty 108).bytes = 8 := rfl
@[go_sem] theorem t108agg : (C.ty 108).agg = false := rfl
@[go_sem] theorem t109ok : (C.ty 109).ok = true := rfl
@[go_sem] theorem t109size : (C.ty 109).size = 1 := rfl
@[go_sem] theorem t109bytes : (C.ty 109).bytes = 8 := rfl
@[go_sem] theorem t109agg : (C.ty 109).agg = false := rfl
@[go_sem] theorem t110ok : (C.ty 110).ok = true := rfl
@[go_sem] theorem t110size : (C.ty 110).size = 1 := rfl
@[go_sem] theorem t110bytes : (C.ty 110).bytes = 8 := rfl
@[go_sem] theorem t110agg : (C.ty 110).agg = false := rfl
@[go_sem] theorem t111ok : (C.ty 111).ok = true := rfl
@[go_sem] theorem t111size : (C.ty 111).size = 1 := rfl
@[go_sem] theorem t111bytes : (C.ty 111).bytes = 8 := rfl
@[go_sem] theorem t111agg : (C.ty 111).agg = false := rfl
@[go_sem] theorem t112ok : (C.ty 112).ok = true := rfl
@[go_sem] theorem t112size : (C.ty 112).size = 1 := rfl
@[go_sem] theorem t112bytes : (C.ty 112).bytes = 4 := rfl
@[go_sem] theorem t112agg : (C.ty 112).agg = false := rfl
@[go_sem] theorem t112ik : (C.ty 112).ik = some .u32 := rfl
@[go_sem] theorem t112z : zsOf (C.ty 112) = ((.int .u32 0) : Value).cells.toList.map cv1 := rfl
@[go_sem] theorem t113ok : (C.ty 113).ok = true := rfl
@[go_sem] theorem t113size : (C.ty 113).size = 1 := rfl
@[go_sem] theorem t113bytes : (C.ty 113).bytes = 8 := rfl
@[go_sem] theorem t113agg : (C.ty 113).agg = false := rfl
@[go_sem] theorem t114ok : (C.ty 114).ok = true := rfl
@[go_sem] theorem t114size : (C.ty 114).size = 1 := rfl
@[go_sem] theorem t114bytes : (C.ty 114).bytes = 8 := rfl
@[go_sem] theorem t114agg : (C.ty 114).agg = false := rfl
@[go_sem] theorem t114ik : (C.ty 114).ik = some .u64 := rfl
@[go_sem] theorem t114z : zsOf (C.ty 114) = ((.int .u64 0) : Value).cells.toList.map cv1 := rfl
@[go_sem] theorem t115ok : (C.ty 115).ok = true := rfl
@[go_sem] theorem t115size : (C.ty 115).size = 1 := rfl
@[go_sem] theorem t115bytes : (C.ty 115).bytes = 8 := rfl
@[go_sem] theorem t115agg : (C.ty 115).agg = false := rfl
@[go_sem] theorem t115ik : (C.ty 115).ik = some .u64 := rfl
@[go_sem] theorem t115z : zsOf (C.ty 115) = ((.int .u64 0) : Value).cells.toList.map cv1 := rfl
@[go_sem] theorem t116ok : (C.ty 116).ok = true := rfl
@[go_sem] theorem t116size : (C.ty 116).size = 1 := rfl
@[go_sem] theorem t116bytes : (C.ty 116).bytes = 8 := rfl
@[go_sem] theorem t116agg : (C.ty 116).agg = false := rfl
@[go_sem] theorem t117ok : (C.ty 117).ok = true := rfl
@[go_sem] theorem t117size : (C.ty 117).size = 1 := rfl
@[go_sem] theorem t117bytes : (C.ty 117).bytes = 8 := rfl
@[go_sem] theorem t117agg : (C.ty 117).agg = false := rfl
@[go_sem] theorem t118ok : (C.ty 118).ok = true := rfl
@[go_sem] theorem t118size : (C.ty 118).size = 1 := rfl
@[go_sem] theorem t118bytes : (C.ty 118).bytes = 8 := rfl
@[go_sem] theorem t118agg : (C.ty 118).agg = false := rfl
@[go_sem] theorem t119ok : (C.ty 119).ok = true := rfl
@[go_sem] theorem t119size : (C.ty 119).size = 1 := rfl
@[go_sem] theorem t119bytes : (C.ty 119).bytes = 8 := rfl
@[go_sem] theorem t119agg : (C.ty 119).agg = false := rfl
@[go_sem] theorem t119z : zsOf (C.ty 119) = ((.pointer none) : Value).cells.toList.map cv1 := rfl
@[go_sem] theorem t120ok : (C.ty 120).ok = true := rfl
@[go_sem] theorem t120size : (C.ty 120).size = 1 := rfl
@[go_sem] theorem t120bytes : (C.ty 120).bytes = 8 := rfl
@[go_sem] theorem t120agg : (C.ty 120).agg = false := rfl
@[go_sem] theorem t121ok : (C.ty 121).ok = true := rfl
@[go_sem] theorem t121size : (C.ty 121).size = 1 := rfl
@[go_sem] theorem t121bytes : (C.ty 121).bytes = 8 := rfl
@[go_sem] theorem t121agg : (C.ty 121).agg = false := rfl
@[go_sem] theorem t121z : zsOf (C.ty 121) = ((.pointer none) : Value).cells.toList.map cv1 := rfl
@[go_sem] theorem t122ok : (C.ty 122).ok = true := rfl
@[go_sem] theorem t122size : (C.ty 122).size = 1 := rfl
@[go_sem] theorem t122bytes : (C.ty 122).bytes = 8 := rfl
@[go_sem] theorem t122agg : (C.ty 122).agg = false := rfl
@[go_sem] theorem t123ok : (C.ty 123).ok = true := rfl
@[go_sem] theorem t123size : (C.ty 123).size = 1 := rfl
@[go_sem] theorem t123bytes : (C.ty 123).bytes = 8 := rfl
@[go_sem] theorem t123agg : (C.ty 123).agg = false := rfl
@[go_sem] theorem t124ok : (C.ty 124).ok = true := rfl
@[go_sem] theorem t124size : (C.ty 124).size = 4 := rfl
@[go_sem] theorem t124bytes : (C.ty 124).bytes = 40 := rfl
@[go_sem] theorem t124agg : (C.ty 124).agg = true := rfl
@[go_sem] theorem t124fs : (C.ty 124).fs = [(0, 17), (1, 17), (2, 17), (3, 9)] := rfl
@[go_sem] theorem t124z : zsOf (C.ty 124) = ((.agg #[(.pointer none), (.pointer none), (.pointer none), (.string ⟨#[]⟩)]) : Value).cells.toList.map cv1 := rfl
@[go_sem] theorem t125ok : (C.ty 125).ok = true := rfl
@[go_sem] theorem t125size : (C.ty 125).size = 4 := rfl
@[go_sem] theorem t125bytes : (C.ty 125).bytes = 40 := rfl
@[go_sem] theorem t125agg : (C.ty 125).agg = true := rfl
@[go_sem] theorem t125fs : (C.ty 125).fs = [(0, 17), (1, 17), (2, 17), (3, 9)] := rfl
@[go_sem] theorem t125z : zsOf (C.ty 125) = ((.agg #[(.pointer none), (.pointer none), (.pointer none), (.string ⟨#[]⟩)]) : Value).cells.toList.map cv1 := rfl
@[go_sem] theorem t126ok : (C.ty 126).ok = true := rfl
@[go_sem] theorem t126size : (C.ty 126).size = 0 := rfl
@[go_sem] theorem t126bytes : (C.ty 126).bytes = 0 := rfl
@[go_sem] theorem t126agg : (C.ty 126).agg = true := rfl
@[go_sem] theorem t126arr : (C.ty 126).arr = some (0, 16) := rfl
@[go_sem] theorem t126z : zsOf (C.ty 126) = ((.agg #[]) : Value).cells.toList.map cv1 := rfl
@[go_sem] theorem t127ok : (C.ty 127).ok = true := rfl
@[go_sem] theorem t127size : (C.ty 127).size = 0 := rfl
@[go_sem] theorem t127bytes : (C.ty 127).bytes = 0 := rfl
@[go_sem] theorem t127agg : (C.ty 127).agg = true := rfl
@[go_sem] theorem t127fs : (C.ty 127).fs = [(0, 126)] := rfl
@[go_sem] theorem t127z : zsOf (C.ty 127) = ((.agg #[]) : Value).cells.toList.map cv1 := rfl
@[go_sem] theorem t128ok : (C.ty 128).ok = true := rfl
@[go_sem] theorem t128size : (C.ty 128).size = 0 := rfl
@[go_sem] theorem t128bytes : (C.ty 128).bytes = 0 := rfl
@[go_sem] theorem t128agg : (C.ty 128).agg = true := rfl
@[go_sem] theorem t128fs : (C.ty 128).fs = [(0, 126)] := rfl
@[go_sem] theorem t128z : zsOf (C.ty 128) = ((.agg #[]) : Value).cells.toList.map cv1 := rfl
@[go_sem] theorem t129ok : (C.ty 129).ok = true := rfl
@[go_sem] theorem t129size : (C.ty 129).size = 1 := rfl
@[go_sem] theorem t129bytes : (C.ty 129).bytes = 8 := rfl
@[go_sem] theorem t129agg : (C.ty 129).agg = false := rfl
@[go_sem] theorem t130ok : (C.ty 130).ok = true := rfl
@[go_sem] theorem t130size : (C.ty 130).size = 1 := rfl
@[go_sem] theorem t130bytes : (C.ty 130).bytes = 1 := rfl
@[go_sem] theorem t130agg : (C.ty 130).agg = false := rfl
@[go_sem] theorem t130ik : (C.ty 130).ik = some .u8 := rfl
@[go_sem] theorem t130z : zsOf (C.ty 130) = ((.int .u8 0) : Value).cells.toList.map cv1 := rfl
@[go_sem] theorem t131ok : (C.ty 131).ok = true := rfl
@[go_sem] theorem t131size : (C.ty 131).size = 1 := rfl
@[go_sem] theorem t131bytes : (C.ty 131).bytes = 1 := rfl
@[go_sem] theorem t131agg : (C.ty 131).agg = false := rfl
@[go_sem] theorem t131ik : (C.ty 131).ik = some .u8 := rfl
@[go_sem] theorem t131z : zsOf (C.ty 131) = ((.int .u8 0) : Value).cells.toList.map cv1 := rfl
@[go_sem] theorem t132ok : (C.ty 132).ok = true := rfl
@[go_sem] theorem t132size : (C.ty 132).size = 1 := rfl
@[go_sem] theorem t132bytes : (C.ty 132).bytes = 8 := rfl
@[go_sem] theorem t132agg : (C.ty 132).agg = false := rfl
@[go_sem] theorem t133ok : (C.ty 133).ok = true := rfl
@[go_sem] theorem t133size : (C.ty 133).size = 1 := rfl
@[go_sem] theorem t133bytes : (C.ty 133).bytes = 8 := rfl
@[go_sem] theorem t133agg : (C.ty 133).agg = false := rfl
@[go_sem] theorem t133z : zsOf (C.ty 133) = ((.pointer none) : Value).cells.toList.map cv1 := rfl
@[go_sem] theorem t134ok : (C.ty 134).ok = true := rfl
@[go_sem] theorem t134size : (C.ty 134).size = 1 := rfl
@[go_sem] theorem t134bytes : (C.ty 134).bytes = 4 := rfl
@[go_sem] theorem t134agg : (C.ty 134).agg = false := rfl
@[go_sem] theorem t134ik : (C.ty 134).ik = some .i32 := rfl
@[go_sem] theorem t134z : zsOf (C.ty 134) = ((.int .i32 0) : Value).cells.toList.map cv1 := rfl
@[go_sem] theorem t135ok : (C.ty 135).ok = true := rfl
@[go_sem] theorem t135size : (C.ty 135).size = 1 := rfl
@[go_sem] theorem t135bytes : (C.ty 135).bytes = 4 := rfl
@[go_sem] theorem t135agg : (C.ty 135).agg = false := rfl
@[go_sem] theorem t135ik : (C.ty 135).ik = some .i32 := rfl
@[go_sem] theorem t135z : zsOf (C.ty 135) = ((.int .i32 0) : Value).cells.toList.map cv1 := rfl
@[go_sem] theorem t136ok : (C.ty 136).ok = true := rfl
@[go_sem] theorem t136size : (C.ty 136).size = 11 := rfl
@[go_sem] theorem t136bytes : (C.ty 136).bytes = 48 := rfl
@[go_sem] theorem t136agg : (C.ty 136).agg = true := rfl
@[go_sem] theorem t136fs : (C.ty 136).fs = [(0, 12), (1, 12), (2, 112), (3, 130), (4, 5), (5, 5), (6, 131), (7, 132), (8, 133), (9, 134), (10, 135)] := rfl
@[go_sem] theorem t136z : zsOf (C.ty 136) = ((.agg #[(.int .u64 0), (.int .u64 0), (.int .u32 0), (.int .u8 0), (.int .u8 0), (.int .u8 0), (.int .u8 0), .nilFunc, (.pointer none), (.int .i32 0), (.int .i32 0)]) : Value).cells.toList.map cv1 := rfl
@[go_sem] theorem t137ok : (C.ty 137).ok = true := rfl
@[go_sem] theorem t137size : (C.ty 137).size = 11 := rfl
@[go_sem] theorem t137bytes : (C.ty 137).bytes = 48 := rfl
@[go_sem] theorem t137agg : (C.ty 137).agg = true := rfl
@[go_sem] theorem t137fs : (C.ty 137).fs = [(0, 12), (1, 12), (2, 112), (3, 130), (4, 5), (5, 5), (6, 131), (7, 132), (8, 133), (9, 134), (10, 135)] := rfl
@[go_sem] theorem t137z : zsOf (C.ty 137) = ((.agg #[(.int .u64 0), (.int .u64 0), (.int .u32 0), (.int .u8 0), (.int .u8 0), (.int .u8 0), (.int .u8 0), .nilFunc, (.pointer none), (.int .i32 0), (.int .i32 0)]) : Value).cells.toList.map cv1 := rfl
abbrev t0 : Go.Operand := .tmp 0
abbrev t1 : Go.Operand := .tmp 1
abbrev t2 : Go.Operand := .tmp 2
abbrev t3 : Go.Operand := .tmp 3
abbrev t4 : Go.Operand := .tmp 4
abbrev t5 : Go.Operand := .tmp 5
abbrev t6 : Go.Operand := .tmp 6
abbrev t7 : Go.Operand := .tmp 7
abbrev t8 : Go.Operand := .tmp 8
abbrev t9 : Go.Operand := .tmp 9
abbrev t10 : Go.Operand := .tmp 10
abbrev t11 : Go.Operand := .tmp 11
abbrev t12 : Go.Operand := .tmp 12
abbrev t13 : Go.Operand := .tmp 13
abbrev t14 : Go.Operand := .tmp 14
abbrev t15 : Go.Operand := .tmp 15
abbrev t16 : Go.Operand := .tmp 16
abbrev t17 : Go.Operand := .tmp 17
abbrev t18 : Go.Operand := .tmp 18
abbrev t19 : Go.Operand := .tmp 19
abbrev t20 : Go.Operand := .tmp 20
abbrev t21 : Go.Operand := .tmp 21
abbrev t22 : Go.Operand := .tmp 22
abbrev t23 : Go.Operand := .tmp 23
abbrev t24 : Go.Operand := .tmp 24
abbrev t25 : Go.Operand := .tmp 25
abbrev t26 : Go.Operand := .tmp 26
abbrev t27 : Go.Operand := .tmp 27
abbrev t28 : Go.Operand := .tmp 28
abbrev t29 : Go.Operand := .tmp 29
abbrev t30 : Go.Operand := .tmp 30
abbrev t31 : Go.Operand := .tmp 31
abbrev t32 : Go.Operand := .tmp 32
abbrev t33 : Go.Operand := .tmp 33
abbrev t34 : Go.Operand := .tmp 34
abbrev t35 : Go.Operand := .tmp 35
abbrev t36 : Go.Operand := .tmp 36
abbrev t37 : Go.Operand := .tmp 37
abbrev t38 : Go.Operand := .tmp 38
abbrev t39 : Go.Operand := .tmp 39
abbrev t40 : Go.Operand := .tmp 40
abbrev t41 : Go.Operand := .tmp 41
abbrev t42 : Go.Operand := .tmp 42
abbrev t43 : Go.Operand := .tmp 43
abbrev t44 : Go.Operand := .tmp 44
abbrev t45 : Go.Operand := .tmp 45
abbrev t46 : Go.Operand := .tmp 46
abbrev t47 : Go.Operand := .tmp 47
abbrev t48 : Go.Operand := .tmp 48
abbrev t49 : Go.Operand := .tmp 49
abbrev t50 : Go.Operand := .tmp 50
abbrev t51 : Go.Operand := .tmp 51
abbrev t52 : Go.Operand := .tmp 52
abbrev t53 : Go.Operand := .tmp 53
abbrev t54 : Go.Operand := .tmp 54
abbrev t55 : Go.Operand := .tmp 55
abbrev t56 : Go.Operand := .tmp 56
abbrev t57 : Go.Operand := .tmp 57
abbrev t58 : Go.Operand := .tmp 58
abbrev t59 : Go.Operand := .tmp 59
abbrev t60 : Go.Operand := .tmp 60
abbrev t61 : Go.Operand := .tmp 61
abbrev t62 : Go.Operand := .tmp 62
abbrev t63 : Go.Operand := .tmp 63
abbrev t64 : Go.Operand := .tmp 64
abbrev t65 : Go.Operand := .tmp 65
abbrev t66 : Go.Operand := .tmp 66
abbrev t67 : Go.Operand := .tmp 67
abbrev t68 : Go.Operand := .tmp 68
abbrev t69 : Go.Operand := .tmp 69
abbrev t70 : Go.Operand := .tmp 70
abbrev t71 : Go.Operand := .tmp 71
abbrev t72 : Go.Operand := .tmp 72
abbrev t73 : Go.Operand := .tmp 73
abbrev t74 : Go.Operand := .tmp 74
abbrev t75 : Go.Operand := .tmp 75
abbrev t76 : Go.Operand := .tmp 76
abbrev t77 : Go.Operand := .tmp 77
abbrev t78 : Go.Operand := .tmp 78
abbrev t79 : Go.Operand := .tmp 79
abbrev t80 : Go.Operand := .tmp 80
abbrev t81 : Go.Operand := .tmp 81
abbrev t82 : Go.Operand := .tmp 82
abbrev t83 : Go.Operand := .tmp 83
abbrev t84 : Go.Operand := .tmp 84
abbrev t85 : Go.Operand := .tmp 85
abbrev t86 : Go.Operand := .tmp 86
abbrev t87 : Go.Operand := .tmp 87
abbrev t88 : Go.Operand := .tmp 88
abbrev t89 : Go.Operand := .tmp 89
abbrev t90 : Go.Operand := .tmp 90
abbrev t91 : Go.Operand := .tmp 91
abbrev t92 : Go.Operand := .tmp 92
abbrev t93 : Go.Operand := .tmp 93
abbrev t94 : Go.Operand := .tmp 94
abbrev t95 : Go.Operand := .tmp 95
abbrev t96 : Go.Operand := .tmp 96
abbrev t97 : Go.Operand := .tmp 97
abbrev t98 : Go.Operand := .tmp 98
abbrev t99 : Go.Operand := .tmp 99
abbrev t100 : Go.Operand := .tmp 100
abbrev t101 : Go.Operand := .tmp 101
abbrev t102 : Go.Operand := .tmp 102
abbrev t103 : Go.Operand := .tmp 103
abbrev t104 : Go.Operand := .tmp 104
abbrev t105 : Go.Operand := .tmp 105
abbrev t106 : Go.Operand := .tmp 106
abbrev t107 : Go.Operand := .tmp 107
abbrev t108 : Go.Operand := .tmp 108
abbrev t109 : Go.Operand := .tmp 109
abbrev t110 : Go.Operand := .tmp 110
abbrev t111 : Go.Operand := .tmp 111
abbrev t112 : Go.Operand := .tmp 112
abbrev t113 : Go.Operand := .tmp 113
abbrev t114 : Go.Operand := .tmp 114
abbrev t115 : Go.Operand := .tmp 115
abbrev t116 : Go.Operand := .tmp 116
abbrev t117 : Go.Operand := .tmp 117
abbrev t118 : Go.Operand := .tmp 118
abbrev t119 : Go.Operand := .tmp 119
abbrev t120 : Go.Operand := .tmp 120
abbrev t121 : Go.Operand := .tmp 121
abbrev t122 : Go.Operand := .tmp 122
abbrev t123 : Go.Operand := .tmp 123
abbrev t124 : Go.Operand := .tmp 124
abbrev t125 : Go.Operand := .tmp 125
abbrev t126 : Go.Operand := .tmp 126
abbrev t127 : Go.Operand := .tmp 127
abbrev t128 : Go.Operand := .tmp 128
abbrev t129 : Go.Operand := .tmp 129
abbrev t130 : Go.Operand := .tmp 130
abbrev t131 : Go.Operand := .tmp 131
abbrev t132 : Go.Operand := .tmp 132
abbrev t133 : Go.Operand := .tmp 133
abbrev t134 : Go.Operand := .tmp 134
abbrev t135 : Go.Operand := .tmp 135
abbrev t136 : Go.Operand := .tmp 136
abbrev t137 : Go.Operand := .tmp 137
abbrev t138 : Go.Operand := .tmp 138
abbrev t139 : Go.Operand := .tmp 139
abbrev t140 : Go.Operand := .tmp 140
abbrev t141 : Go.Operand := .tmp 141
abbrev t142 : Go.Operand := .tmp 142
abbrev t143 : Go.Operand := .tmp 143
abbrev t144 : Go.Operand := .tmp 144
abbrev t145 : Go.Operand := .tmp 145
abbrev t146 : Go.Operand := .tmp 146
abbrev t147 : Go.Operand := .tmp 147
abbrev t148 : Go.Operand := .tmp 148
abbrev t149 : Go.Operand := .tmp 149
abbrev t150 : Go.Operand := .tmp 150
abbrev t151 : Go.Operand := .tmp 151
abbrev t152 : Go.Operand := .tmp 152
abbrev t153 : Go.Operand := .tmp 153
abbrev t154 : Go.Operand := .tmp 154
abbrev t155 : Go.Operand := .tmp 155
abbrev t156 : Go.Operand := .tmp 156
abbrev t157 : Go.Operand := .tmp 157
abbrev t158 : Go.Operand := .tmp 158
abbrev t159 : Go.Operand := .tmp 159
abbrev t160 : Go.Operand := .tmp 160
abbrev t161 : Go.Operand := .tmp 161
abbrev t162 : Go.Operand := .tmp 162
abbrev t163 : Go.Operand := .tmp 163
abbrev t164 : Go.Operand := .tmp 164
abbrev t165 : Go.Operand := .tmp 165
abbrev t166 : Go.Operand := .tmp 166
abbrev t167 : Go.Operand := .tmp 167
abbrev t168 : Go.Operand := .tmp 168
abbrev t169 : Go.Operand := .tmp 169
abbrev t170 : Go.Operand := .tmp 170
abbrev t171 : Go.Operand := .tmp 171
abbrev t172 : Go.Operand := .tmp 172
abbrev t173 : Go.Operand := .tmp 173
abbrev t174 : Go.Operand := .tmp 174
abbrev t175 : Go.Operand := .tmp 175
abbrev t176 : Go.Operand := .tmp 176
abbrev t177 : Go.Operand := .tmp 177
abbrev t178 : Go.Operand := .tmp 178
abbrev t179 : Go.Operand := .tmp 179
abbrev t180 : Go.Operand := .tmp 180
abbrev t181 : Go.Operand := .tmp 181
abbrev t182 : Go.Operand := .tmp 182
abbrev t183 : Go.Operand := .tmp 183
abbrev t184 : Go.Operand := .tmp 184
abbrev t185 : Go.Operand := .tmp 185
abbrev t186 : Go.Operand := .tmp 186
abbrev t187 : Go.Operand := .tmp 187
abbrev t188 : Go.Operand := .tmp 188
abbrev t189 : Go.Operand := .tmp 189
abbrev t190 : Go.Operand := .tmp 190
abbrev t191 : Go.Operand := .tmp 191
abbrev t192 : Go.Operand := .tmp 192
abbrev t193 : Go.Operand := .tmp 193
abbrev t194 : Go.Operand := .tmp 194
abbrev t195 : Go.Operand := .tmp 195
abbrev t196 : Go.Operand := .tmp 196
abbrev t197 : Go.Operand := .tmp 197
abbrev t198 : Go.Operand := .tmp 198
abbrev t199 : Go.Operand := .tmp 199
abbrev t200 : Go.Operand := .tmp 200
abbrev t201 : Go.Operand := .tmp 201
abbrev t202 : Go.Operand := .tmp 202
abbrev t203 : Go.Operand := .tmp 203
abbrev t204 : Go.Operand := .tmp 204
abbrev t205 : Go.Operand := .tmp 205
abbrev t206 : Go.Operand := .tmp 206
abbrev t207 : Go.Operand := .tmp 207
abbrev t208 : Go.Operand := .tmp 208
abbrev t209 : Go.Operand := .tmp 209
abbrev t210 : Go.Operand := .tmp 210
abbrev t211 : Go.Operand := .tmp 211
abbrev t212 : Go.Operand := .tmp 212
abbrev t213 : Go.Operand := .tmp 213
abbrev t214 : Go.Operand := .tmp 214
abbrev t215 : Go.Operand := .tmp 215
abbrev t216 : Go.Operand := .tmp 216
abbrev t217 : Go.Operand := .tmp 217
abbrev t218 : Go.Operand := .tmp 218
abbrev t219 : Go.Operand := .tmp 219
abbrev t220 : Go.Operand := .tmp 220
abbrev t221 : Go.Operand := .tmp 221
abbrev t222 : Go.Operand := .tmp 222
abbrev t223 : Go.Operand := .tmp 223
abbrev t224 : Go.Operand := .tmp 224
abbrev t225 : Go.Operand := .tmp 225
abbrev t226 : Go.Operand := .tmp 226
abbrev t227 : Go.Operand := .tmp 227
abbrev t228 : Go.Operand := .tmp 228
abbrev t229 : Go.Operand := .tmp 229
abbrev t230 : Go.Operand := .tmp 230
abbrev t231 : Go.Operand := .tmp 231
abbrev t232 : Go.Operand := .tmp 232
abbrev t233 : Go.Operand := .tmp 233
abbrev t234 : Go.Operand := .tmp 234
abbrev t235 : Go.Operand := .tmp 235
abbrev t236 : Go.Operand := .tmp 236
abbrev t237 : Go.Operand := .tmp 237
abbrev t238 : Go.Operand := .tmp 238
abbrev t239 : Go.Operand := .tmp 239
abbrev t240 : Go.Operand := .tmp 240
abbrev t241 : Go.Operand := .tmp 241
abbrev t242 : Go.Operand := .tmp 242
abbrev t243 : Go.Operand := .tmp 243
abbrev t244 : Go.Operand := .tmp 244
abbrev t245 : Go.Operand := .tmp 245
abbrev t246 : Go.Operand := .tmp 246
abbrev t247 : Go.Operand := .tmp 247
abbrev t248 : Go.Operand := .tmp 248
abbrev t249 : Go.Operand := .tmp 249
abbrev t250 : Go.Operand := .tmp 250
abbrev t251 : Go.Operand := .tmp 251
abbrev t252 : Go.Operand := .tmp 252
abbrev t253 : Go.Operand := .tmp 253
abbrev t254 : Go.Operand := .tmp 254
abbrev t255 : Go.Operand := .tmp 255
abbrev t256 : Go.Operand := .tmp 256
abbrev t257 : Go.Operand := .tmp 257
abbrev t258 : Go.Operand := .tmp 258
abbrev t259 : Go.Operand := .tmp 259
abbrev t260 : Go.Operand := .tmp 260
abbrev t261 : Go.Operand := .tmp 261
abbrev t262 : Go.Operand := .tmp 262
abbrev t263 : Go.Operand := .tmp 263
abbrev t264 : Go.Operand := .tmp 264
abbrev t265 : Go.Operand := .tmp 265
abbrev t266 : Go.Operand := .tmp 266
abbrev t267 : Go.Operand := .tmp 267
abbrev t268 : Go.Operand := .tmp 268
abbrev t269 : Go.Operand := .tmp 269
abbrev t270 : Go.Operand := .tmp 270
abbrev t271 : Go.Operand := .tmp 271
abbrev t272 : Go.Operand := .tmp 272
abbrev t273 : Go.Operand := .tmp 273
abbrev t274 : Go.Operand := .tmp 274
abbrev t275 : Go.Operand := .tmp 275
abbrev t276 : Go.Operand := .tmp 276
abbrev t277 : Go.Operand := .tmp 277
abbrev t278 : Go.Operand := .tmp 278
abbrev t279 : Go.Operand := .tmp 279
abbrev t280 : Go.Operand := .tmp 280
abbrev t281 : Go.Operand := .tmp 281
abbrev t282 : Go.Operand := .tmp 282
abbrev t283 : Go.Operand := .tmp 283
abbrev t284 : Go.Operand := .tmp 284
abbrev t285 : Go.Operand := .tmp 285
abbrev t286 : Go.Operand := .tmp 286
abbrev t287 : Go.Operand := .tmp 287
abbrev t288 : Go.Operand := .tmp 288
abbrev t289 : Go.Operand := .tmp 289
abbrev t290 : Go.Operand := .tmp 290
abbrev t291 : Go.Operand := .tmp 291
abbrev t292 : Go.Operand := .tmp 292
abbrev t293 : Go.Operand := .tmp 293
abbrev t294 : Go.Operand := .tmp 294
abbrev t295 : Go.Operand := .tmp 295
abbrev t296 : Go.Operand := .tmp 296
abbrev t297 : Go.Operand := .tmp 297
abbrev t298 : Go.Operand := .tmp 298
abbrev t299 : Go.Operand := .tmp 299
abbrev t300 : Go.Operand := .tmp 300
abbrev t301 : Go.Operand := .tmp 301
abbrev t302 : Go.Operand := .tmp 302
abbrev t303 : Go.Operand := .tmp 303
abbrev t304 : Go.Operand := .tmp 304
abbrev t305 : Go.Operand := .tmp 305
abbrev t306 : Go.Operand := .tmp 306
abbrev t307 : Go.Operand := .tmp 307
abbrev t308 : Go.Operand := .tmp 308
abbrev t309 : Go.Operand := .tmp 309
abbrev t310 : Go.Operand := .tmp 310
abbrev t311 : Go.Operand := .tmp 311
abbrev t312 : Go.Operand := .tmp 312
abbrev t313 : Go.Operand := .tmp 313
abbrev t314 : Go.Operand := .tmp 314
abbrev t315 : Go.Operand := .tmp 315
abbrev t316 : Go.Operand := .tmp 316
abbrev t317 : Go.Operand := .tmp 317
abbrev t318 : Go.Operand := .tmp 318
abbrev t319 : Go.Operand := .tmp 319
abbrev t320 : Go.Operand := .tmp 320
abbrev t321 : Go.Operand := .tmp 321
abbrev t322 : Go.Operand := .tmp 322
abbrev t323 : Go.Operand := .tmp 323
abbrev t324 : Go.Operand := .tmp 324
abbrev t325 : Go.Operand := .tmp 325
abbrev t326 : Go.Operand := .tmp 326
abbrev t327 : Go.Operand := .tmp 327
abbrev t328 : Go.Operand := .tmp 328
abbrev t329 : Go.Operand := .tmp 329
abbrev t330 : Go.Operand := .tmp 330
abbrev t331 : Go.Operand := .tmp 331
abbrev t332 : Go.Operand := .tmp 332
abbrev t333 : Go.Operand := .tmp 333
abbrev t334 : Go.Operand := .tmp 334
abbrev t335 : Go.Operand := .tmp 335
abbrev t336 : Go.Operand := .tmp 336
abbrev t337 : Go.Operand := .tmp 337
abbrev t338 : Go.Operand := .tmp 338
abbrev t339 : Go.Operand := .tmp 339
abbrev t340 : Go.Operand := .tmp 340
abbrev t341 : Go.Operand := .tmp 341
abbrev t342 : Go.Operand := .tmp 342
abbrev t343 : Go.Operand := .tmp 343
abbrev t344 : Go.Operand := .tmp 344
abbrev t345 : Go.Operand := .tmp 345
abbrev t346 : Go.Operand := .tmp 346
abbrev t347 : Go.Operand := .tmp 347
abbrev t348 : Go.Operand := .tmp 348
abbrev t349 : Go.Operand := .tmp 349
abbrev t350 : Go.Operand := .tmp 350
abbrev t351 : Go.Operand := .tmp 351
abbrev t352 : Go.Operand := .tmp 352
abbrev t353 : Go.Operand := .tmp 353
abbrev t354 : Go.Operand := .tmp 354
abbrev t355 : Go.Operand := .tmp 355
abbrev t356 : Go.Operand := .tmp 356
abbrev t357 : Go.Operand := .tmp 357
abbrev t358 : Go.Operand := .tmp 358
abbrev t359 : Go.Operand := .tmp 359
abbrev t360 : Go.Operand := .tmp 360
abbrev t361 : Go.Operand := .tmp 361
abbrev t362 : Go.Operand := .tmp 362
abbrev t363 : Go.Operand := .tmp 363
abbrev t364 : Go.Operand := .tmp 364
abbrev t365 : Go.Operand := .tmp 365
abbrev t366 : Go.Operand := .tmp 366
abbrev t367 : Go.Operand := .tmp 367
abbrev t368 : Go.Operand := .tmp 368
abbrev t369 : Go.Operand := .tmp 369
abbrev t370 : Go.Operand := .tmp 370
abbrev t371 : Go.Operand := .tmp 371
abbrev t372 : Go.Operand := .tmp 372
abbrev t373 : Go.Operand := .tmp 373
abbrev t374 : Go.Operand := .tmp 374
abbrev t375 : Go.Operand := .tmp 375
abbrev t376 : Go.Operand := .tmp 376
abbrev t377 : Go.Operand := .tmp 377
abbrev t378 : Go.Operand := .tmp 378
abbrev t379 : Go.Operand := .tmp 379
abbrev t380 : Go.Operand := .tmp 380
abbrev t381 : Go.Operand := .tmp 381
abbrev t382 : Go.Operand := .tmp 382
abbrev t383 : Go.Operand := .tmp 383
abbrev t384 : Go.Operand := .tmp 384
abbrev t385 : Go.Operand := .tmp 385
abbrev t386 : Go.Operand := .tmp 386
abbrev t387 : Go.Operand := .tmp 387
abbrev t388 : Go.Operand := .tmp 388
abbrev t389 : Go.Operand := .tmp 389
abbrev t390 : Go.Operand := .tmp 390
abbrev t391 : Go.Operand := .tmp 391
abbrev t392 : Go.Operand := .tmp 392
abbrev t393 : Go.Operand := .tmp 393
abbrev t394 : Go.Operand := .tmp 394
abbrev t395 : Go.Operand := .tmp 395
abbrev t396 : Go.Operand := .tmp 396
abbrev t397 : Go.Operand := .tmp 397
abbrev t398 : Go.Operand := .tmp 398
abbrev t399 : Go.Operand := .tmp 399
end Go.Proofs.Ytlomgfdepllanaa
end

section
set_option maxRecDepth 100000
namespace Go.Proofs.Ytlomgfdepllanaa
open Go Go.Bv
/-! fluxion/fluxionref06.SameList -/
theorem w13 : Try.f13.body.map (absT C) = some (.q (.R [.n 4 (.assign (.const (.bool false)))]) (.q (.q (.R [.n 6 (.move t0), .n 7 (.call ⟨.builtin .len, #[t6], #[23]⟩), .n 8 (.move t1), .n 9 (.call ⟨.builtin .len, #[t8], #[23]⟩), .n 10 (.binOp .neq 3 t7 t9 3)]) (.c t10 (.q (.R [.n 4 (.assign (.const (.bool false)))]) .r) .s)) (.q (.q (.R [.n 5 (.assign (.const (.int .i64 0)))]) (.b 0 (.l (.q (.q (.R [.n 11 (.move t5), .n 12 (.move t0), .n 13 (.call ⟨.builtin .len, #[t12], #[23]⟩), .n 14 (.binOp .lss 3 t11 t13 3)]) (.c t14 .s (.x 0))) (.q (.b 1 (.q (.D true [.n 17 (.move t0), .n 18 (.move t5), .n 19 (.indexAddr 23 t17 t18), .n 20 (.load 3 t19), .n 21 (.move t1), .n 22 (.move t5), .n 23 (.indexAddr 23 t21 t22), .n 24 (.load 3 t23), .n 25 (.binOp .neq 3 t20 t24 3)]) (.c t25 (.q (.R [.n 4 (.assign (.const (.bool false)))]) .r) .s))) (.R [.n 15 (.move t5), .n 16 (.binOp .add 3 t15 (.const (.int .i64 1)) 3), .n 5 (.assign t16)])))))) (.q (.R [.n 4 (.assign (.const (.bool true)))]) .r)))) := by kernel_rfl
/-! fluxion/fluxionref06.May -/
theorem w18 : Try.f18.body.map (absT C) = some (.q (.R [.n 2 (.assign (.const (.int .i64 0)))]) (.q (.q (.R [.n 6 (.move t0), .n 7 (.call ⟨.builtin .len, #[t6], #[23]⟩), .n 8 (.binOp .gtr 3 t7 (.const (.int .i64 4)) 3)]) (.c t8 (.q (.R [.n 2 (.assign (.const (.int .i64 14)))]) .r) .s)) (.q (.q (.R [.n 3 (.assign (.const (.int .i64 0)))]) (.b 0 (.l (.q (.q (.R [.n 9 (.move t3), .n 10 (.move t0), .n 11 (.call ⟨.builtin .len, #[t10], #[23]⟩), .n 12 (.binOp .lss 3 t9 t11 3)]) (.c t12 .s (.x 0))) (.q (.b 1 (.q (.R [.n 15 (.move t0), .n 16 (.move t3), .n 17 (.indexAddr 23 t15 t16), .n 18 (.load 3 t17), .n 19 (.binOp .lss 3 t18 (.const (.int .i64 1)) 3)]) (.c t19 (.q (.R [.n 2 (.assign (.const (.int .i64 13)))]) .r) .s))) (.R [.n 13 (.move t3), .n 14 (.binOp .add 3 t13 (.const (.int .i64 1)) 3), .n 3 (.assign t14)])))))) (.q (.R [.n 4 (.assign (.const (.int .i64 1)))]) (.q (.q (.R [.n 5 (.assign (.const (.int .i64 0)))]) (.b 2 (.l (.q (.q (.R [.n 20 (.move t5), .n 21 (.move t0), .n 22 (.call ⟨.builtin .len, #[t21], #[23]⟩), .n 23 (.binOp .lss 3 t20 t22 3)]) (.c t23 .s (.x 2))) (.q (.b 3 (.q (.q (.R [.n 26 (.move t0), .n 27 (.move t5), .n 28 (.indexAddr 23 t26 t27), .n 29 (.load 3 t28), .n 30 (.binOp .gtr 3 t29 (.const (.int .i64 1024)) 3)]) (.c t30 (.q (.R [.n 2 (.assign (.const (.int .i64 14)))]) .r) .s)) (.q (.R [.n 31 (.move t4), .n 32 (.move t0), .n 33 (.move t5), .n 34 (.indexAddr 23 t32 t33), .n 35 (.load 3 t34), .n 36 (.binOp .mul 3 t31 t35 3), .n 4 (.assign t36)]) (.q (.R [.n 37 (.move t4), .n 38 (.binOp .gtr 3 t37 (.const (.int .i64 1024)) 3)]) (.c t38 (.q (.R [.n 2 (.assign (.const (.int .i64 14)))]) .r) .s))))) (.R [.n 24 (.move t5), .n 25 (.binOp .add 3 t24 (.const (.int .i64 1)) 3), .n 5 (.assign t25)])))))) (.q (.R [.n 2 (.assign (.const (.int .i64 0)))]) .r)))))) := by kernel_rfl
/-! fluxion/fluxionref06.Count -/
theorem w19 : Try.f19.body.map (absT C) = some (.q (.R [.n 2 (.assign (.const (.int .i64 0)))]) (.q (.q (.R [.n 5 (.move t0), .n 6 (.call ⟨.value (.func 18), #[t5], #[23]⟩), .n 7 (.binOp .neq 3 t6 (.const (.int .i64 0)) 3)]) (.c t7 (.q (.R [.n 2 (.assign (.const (.int .i64 0)))]) .r) .s)) (.q (.R [.n 3 (.assign (.const (.int .i64 1)))]) (.q (.q (.R [.n 4 (.assign (.const (.int .i64 0)))]) (.b 0 (.l (.q (.q (.R [.n 8 (.move t4), .n 9 (.move t0), .n 10 (.call ⟨.builtin .len, #[t9], #[23]⟩), .n 11 (.binOp .lss 3 t8 t10 3)]) (.c t11 .s (.x 0))) (.q (.b 1 (.R [.n 14 (.move t3), .n 15 (.move t0), .n 16 (.move t4), .n 17 (.indexAddr 23 t15 t16), .n 18 (.load 3 t17), .n 19 (.binOp .mul 3 t14 t18 3), .n 3 (.assign t19)])) (.R [.n 12 (.move t4), .n 13 (.binOp .add 3 t12 (.const (.int .i64 1)) 3), .n 4 (.assign t13)])))))) (.q (.R [.n 20 (.move t3), .n 2 (.assign t20)]) .r))))) := by kernel_rfl
/-! fluxion/fluxionref06.has -/
theorem w65 : Try.f65.body.map (absT C) = some (.q (.R [.n 4 (.assign (.const (.bool false)))]) (.q (.q (.R [.n 5 (.assign (.const (.int .i64 0)))]) (.b 0 (.l (.q (.q (.R [.n 6 (.move t5), .n 7 (.move t0), .n 8 (.call ⟨.builtin .len, #[t7], #[23]⟩), .n 9 (.binOp .lss 3 t6 t8 3)]) (.c t9 .s (.x 0))) (.q (.b 1 (.q (.R [.n 12 (.move t0), .n 13 (.move t5), .n 14 (.indexAddr 23 t12 t13), .n 15 (.load 3 t14), .n 16 (.move t1), .n 17 (.binOp .eql 3 t15 t16 3)]) (.c t17 (.q (.R [.n 4 (.assign (.const (.bool true)))]) .r) .s))) (.R [.n 10 (.move t5), .n 11 (.binOp .add 3 t10 (.const (.int .i64 1)) 3), .n 5 (.assign t11)])))))) (.q (.R [.n 4 (.assign (.const (.bool false)))]) .r))) := by kernel_rfl
/-! fluxion/fluxionref06.Back -/
theorem w64 : Try.f64.body.map (absT C) = some (.q (.R [.n 4 (.assign (.const (.int .i64 0)))]) (.q (.q (.R [.n 5 (.move t1), .n 6 (.move t0), .n 7 (.call ⟨.builtin .len, #[t6], #[23]⟩), .n 8 (.binOp .gtr 3 t5 t7 3)]) (.c t8 (.q (.R [.n 4 (.assign (.const (.int .i64 0)))]) .r) .s)) (.q (.R [.n 9 (.move t0), .n 10 (.move t0), .n 11 (.call ⟨.builtin .len, #[t10], #[23]⟩), .n 12 (.move t1), .n 13 (.binOp .sub 3 t11 t12 3), .n 14 (.indexAddr 23 t9 t13), .n 15 (.load 3 t14), .n 4 (.assign t15)]) .r))) := by kernel_rfl
/-! fluxion/fluxionref06.Fits -/
theorem w50 : Try.f50.body.map (absT C) = some (.q (.R [.n 4 (.assign (.const (.int .i64 0)))]) (.q (.R [.n 8 (.move t0), .n 9 (.call ⟨.value (.func 18), #[t8], #[23]⟩), .n 5 (.assign t9)]) (.q (.q (.R [.n 10 (.move t5), .n 11 (.binOp .neq 3 t10 (.const (.int .i64 0)) 3)]) (.c t11 (.q (.R [.n 12 (.move t5), .n 4 (.assign t12)]) .r) .s)) (.q (.R [.n 13 (.move t1), .n 14 (.call ⟨.value (.func 18), #[t13], #[23]⟩), .n 6 (.assign t14)]) (.q (.q (.R [.n 15 (.move t6), .n 16 (.binOp .neq 3 t15 (.const (.int .i64 0)) 3)]) (.c t16 (.q (.R [.n 17 (.move t6), .n 4 (.assign t17)]) .r) .s)) (.q (.q (.R [.n 7 (.assign (.const (.int .i64 1)))]) (.b 0 (.l (.q (.q (.R [.n 18 (.move t7), .n 19 (.move t0), .n 20 (.call ⟨.builtin .len, #[t19], #[23]⟩), .n 21 (.binOp .leq 3 t18 t20 3)]) (.c t21 .s (.x 0))) (.q (.b 1 (.q (.R [.n 24 (.move t1), .n 25 (.move t7), .n 26 (.call ⟨.value (.func 64), #[t24, t25], #[23, 3]⟩), .n 27 (.binOp .eql 3 t26 (.const (.int .i64 0)) 3), .n 28 (.move t27), .g (some 29) (.move t0) 28 false, .g (some 30) (.move t7) 28 false, .g (some 31) (.call ⟨.value (.func 64), #[t29, t30], #[23, 3]⟩) 28 false, .g (some 32) (.binOp .neq 3 t31 (.const (.int .i64 1)) 3) 28 false, .g (some 33) (.move t32) 28 false, .g (some 34) (.move t0) 33 true, .g (some 35) (.move t7) 33 true, .g (some 36) (.call ⟨.value (.func 64), #[t34, t35], #[23, 3]⟩) 33 true, .g (some 37) (.move t1) 33 true, .g (some 38) (.move t7) 33 true, .g (some 39) (.call ⟨.value (.func 64), #[t37, t38], #[23, 3]⟩) 33 true, .g (some 40) (.binOp .neq 3 t36 t39 3) 33 true, .g (some 41) (.pick t33 t40 (.const (.bool false))) 28 false, .n 42 (.pick t28 (.const (.bool true)) t41)]) (.c t42 (.q (.R [.n 4 (.assign (.const (.int .i64 13)))]) .r) .s))) (.R [.n 22 (.move t7), .n 23 (.binOp .add 3 t22 (.const (.int .i64 1)) 3), .n 7 (.assign t23)])))))) (.q (.R [.n 4 (.assign (.const (.int .i64 0)))]) .r))))))) := by kernel_rfl
/-! fluxion/fluxionref06.Drop -/
theorem w51 : Try.f51.body.map (absT C) = some (.q (.R [.n 4 (.assign (.const (.slice none 0 0)))]) (.q (.R [.n 5 (.assign (.const (.slice none 0 0)))]) (.q (.q (.R [.n 6 (.assign (.const (.int .i64 0)))]) (.b 0 (.l (.q (.q (.R [.n 7 (.move t6), .n 8 (.move t0), .n 9 (.call ⟨.builtin .len, #[t8], #[23]⟩), .n 10 (.binOp .lss 3 t7 t9 3)]) (.c t10 .s (.x 0))) (.q (.b 1 (.q (.R [.n 13 (.move t1), .n 14 (.move t6), .n 15 (.call ⟨.value (.func 65), #[t13, t14], #[23, 3]⟩), .n 16 (.unOp .not 4 t15)]) (.c t16 (.R [.n 17 (.move t5), .n 18 (.move t0), .n 19 (.move t6), .n 20 (.indexAddr 23 t18 t19), .n 21 (.load 3 t20), .n 22 (.buildSlice 23 1 #[(0, t21)]), .n 23 (.call ⟨.builtin .append, #[t17, t22], #[23, 23]⟩), .n 5 (.assign t23)]) .s))) (.R [.n 11 (.move t6), .n 12 (.binOp .add 3 t11 (.const (.int .i64 1)) 3), .n 6 (.assign t12)])))))) (.q (.R [.n 24 (.move t5), .n 4 (.assign t24)]) .r)))) := by kernel_rfl
/-! fluxion/fluxionref11.In -/
theorem w15 : Try.f15.body.map (absT C) = some (.q (.R [.n 4 (.assign (.const (.bool false)))]) (.q (.q (.R [.n 5 (.move t0), .n 6 (.binOp .lss 22 t5 (.const (.int .i64 1)) 22), .n 7 (.move t6), .g (some 8) (.move t0) 7 false, .g (some 9) (.binOp .gtr 22 t8 (.const (.int .i64 20)) 22) 7 false, .n 10 (.pick t7 (.const (.bool true)) t9), .n 11 (.move t10), .g (some 12) (.move t1) 11 false, .g (some 13) (.binOp .lss 3 t12 (.const (.int .i64 1)) 3) 11 false, .n 14 (.pick t11 (.const (.bool true)) t13), .n 15 (.move t14), .g (some 16) (.move t1) 15 false, .g (some 17) (.binOp .gtr 3 t16 (.const (.int .i64 3)) 3) 15 false, .n 18 (.pick t15 (.const (.bool true)) t17)]) (.c t18 (.q (.R [.n 4 (.assign (.const (.bool false)))]) .r) .s)) (.q (.q (.R [.n 19 (.move t0)]) (.b 0 (.q (.R [.n 21 (.binOp .eql 22 t19 (.const (.int .i64 18)) 22), .n 20 (.assign t21)]) (.c t20 (.q (.R [.n 22 (.move t1), .n 23 (.binOp .eql 3 t22 (.const (.int .i64 1)) 3), .n 4 (.assign t23)]) .r) (.q (.q (.R [.n 25 (.binOp .eql 22 t19 (.const (.int .i64 19)) 22), .n 24 (.assign t25)]) (.c t24 .s (.R [.n 26 (.binOp .eql 22 t19 (.const (.int .i64 20)) 22), .n 24 (.assign t26)]))) (.c t24 (.q (.R [.n 27 (.move t1), .n 28 (.binOp .lss 3 t27 (.const (.int .i64 3)) 3), .n 4 (.assign t28)]) .r) (.q (.q (.R [.n 30 (.binOp .eql 22 t19 (.const (.int .i64 8)) 22), .n 29 (.assign t30)]) (.c t29 .s (.R [.n 31 (.binOp .eql 22 t19 (.const (.int .i64 9)) 22), .n 29 (.assign t31)]))) (.c t29 (.q (.R [.n 32 (.move t1), .n 33 (.binOp .eql 3 t32 (.const (.int .i64 3)) 3), .n 4 (.assign t33)]) .r) .s)))))))) (.q (.R [.n 4 (.assign (.const (.bool true)))]) .r)))) := by kernel_rfl
/-! fluxion/fluxionref11.None -/
theorem w17 : Try.f17.body.map (absT C) = some (.q (.R [.n 4 (.assign (.const (.bool false)))]) (.q (.q (.R [.n 5 (.move t1)]) (.b 0 (.q (.q (.R [.n 7 (.binOp .eql 22 t5 (.const (.int .i64 6)) 22), .n 6 (.assign t7)]) (.c t6 .s (.q (.R [.n 8 (.binOp .eql 22 t5 (.const (.int .i64 11)) 22), .n 6 (.assign t8)]) (.c t6 .s (.R [.n 9 (.binOp .eql 22 t5 (.const (.int .i64 17)) 22), .n 6 (.assign t9)]))))) (.c t6 (.q (.R [.n 10 (.move t0), .n 11 (.binOp .eql 3 t10 (.const (.int .i64 1)) 3), .n 4 (.assign t11)]) .r) (.q (.q (.R [.n 13 (.binOp .eql 22 t5 (.const (.int .i64 14)) 22), .n 12 (.assign t13)]) (.c t12 .s (.R [.n 14 (.binOp .eql 22 t5 (.const (.int .i64 20)) 22), .n 12 (.assign t14)]))) (.c t12 (.q (.R [.n 15 (.move t0), .n 16 (.binOp .lss 3 t15 (.const (.int .i64 3)) 3), .n 4 (.assign t16)]) .r) .s)))))) (.q (.R [.n 4 (.assign (.const (.bool false)))]) .r))) := by kernel_rfl
/-! fluxion/fluxionref11.Arity -/
theorem w27 : Try.f27.body.map (absT C) = some (.q (.R [.n 2 (.assign (.const (.int .i64 0))), .n 3 (.assign (.const (.int .i64 0)))]) (.q (.q (.R [.n 4 (.move t0)]) (.b 0 (.q (.q (.R [.n 6 (.binOp .eql 22 t4 (.const (.int .i64 1)) 22), .n 5 (.assign t6)]) (.c t5 .s (.q (.R [.n 7 (.binOp .eql 22 t4 (.const (.int .i64 2)) 22), .n 5 (.assign t7)]) (.c t5 .s (.q (.R [.n 8 (.binOp .eql 22 t4 (.const (.int .i64 3)) 22), .n 5 (.assign t8)]) (.c t5 .s (.q (.R [.n 9 (.binOp .eql 22 t4 (.const (.int .i64 4)) 22), .n 5 (.assign t9)]) (.c t5 .s (.R [.n 10 (.binOp .eql 22 t4 (.const (.int .i64 10)) 22), .n 5 (.assign t10)]))))))))) (.c t5 (.q (.R [.n 2 (.assign (.const (.int .i64 2))), .n 3 (.assign (.const (.int .i64 2)))]) .r) (.q (.R [.n 12 (.binOp .eql 22 t4 (.const (.int .i64 19)) 22), .n 11 (.assign t12)]) (.c t11 (.q (.R [.n 2 (.assign (.const (.int .i64 3))), .n 3 (.assign (.const (.int .i64 3)))]) .r) (.q (.R [.n 14 (.binOp .eql 22 t4 (.const (.int .i64 17)) 22), .n 13 (.assign t14)]) (.c t13 (.q (.R [.n 2 (.assign (.const (.int .i64 1))), .n 3 (.assign (.const (.int .i64 8)))]) .r) .s)))))))) (.q (.q (.R [.n 15 (.move t0), .n 16 (.binOp .lss 22 t15 (.const (.int .i64 1)) 22), .n 17 (.move t16), .g (some 18) (.move t0) 17 false, .g (some 19) (.binOp .gtr 22 t18 (.const (.int .i64 20)) 22) 17 false, .n 20 (.pick t17 (.const (.bool true)) t19)]) (.c t20 (.q (.R [.n 2 (.assign (.const (.int .i64 0))), .n 3 (.assign (.const (.int .i64 0)))]) .r) .s)) (.q (.R [.n 2 (.assign (.const (.int .i64 1))), .n 3 (.assign (.const (.int .i64 1)))]) .r)))) := by kernel_rfl
/-! fluxion/fluxionref11.divisor -/
theorem w55 : Try.f55.body.map (absT C) = some (.q (.R [.n 4 (.assign (.const (.bool false)))]) (.q (.q (.R [.n 5 (.move t0), .n 6 (.binOp .lss 3 t5 (.const (.int .i64 0)) 3)]) (.c t6 (.R [.n 7 (.move t0), .n 8 (.unOp .neg 3 t7), .n 0 (.assign t8)]) .s)) (.q (.b 0 (.l (.q (.q (.R [.n 9 (.move t1), .n 10 (.binOp .gtr 3 t9 (.const (.int .i64 0)) 3)]) (.c t10 .s (.x 0))) (.b 1 (.D true [.n 11 (.move t1), .n 12 (.move t0), .n 13 (.move t1), .n 14 (.binOp .rem 3 t12 t13 3), .n 0 (.assign t11), .n 1 (.assign t14)]))))) (.q (.R [.n 15 (.move t0), .n 16 (.binOp .neq 3 t15 (.const (.int .i64 1)) 3), .n 4 (.assign t16)]) .r)))) := by kernel_rfl
/-! fluxion/fluxionref11.attrs -/
theorem w28 : Try.f28.body.map (absT C) = some (.q (.R [.n 4 (.assign (.const (.bool false)))]) (.q (.q (.R [.n 5 (.assign (.const (.int .i64 0)))]) (.b 0 (.l (.q (.q (.R [.n 10 (.move t5), .n 11 (.move t1), .n 12 (.call ⟨.builtin .len, #[t11], #[23]⟩), .n 13 (.binOp .lss 3 t10 t12 3)]) (.c t13 .s (.x 0))) (.q (.b 1 (.q (.R [.n 16 (.move t1), .n 17 (.move t5), .n 18 (.indexAddr 23 t16 t17), .n 19 (.load 3 t18), .n 20 (.binOp .gtr 3 t19 (.const (.int .i64 2147483647)) 3), .n 21 (.move t20), .g (some 22) (.move t1) 21 false, .g (some 23) (.move t5) 21 false, .g (some 24) (.indexAddr 23 t22 t23) 21 false, .g (some 25) (.load 3 t24) 21 false, .g (some 26) (.binOp .lss 3 t25 (.const (.int .i64 (-2147483647))) 3) 21 false, .n 27 (.pick t21 (.const (.bool true)) t26)]) (.c t27 (.q (.R [.n 4 (.assign (.const (.bool false)))]) .r) .s))) (.R [.n 14 (.move t5), .n 15 (.binOp .add 3 t14 (.const (.int .i64 1)) 3), .n 5 (.assign t15)])))))) (.q (.q (.R [.n 28 (.move t0)]) (.b 2 (.q (.R [.n 30 (.binOp .eql 22 t28 (.const (.int .i64 6)) 22), .n 29 (.assign t30)]) (.c t29 (.q (.R [.n 31 (.move t1), .n 32 (.call ⟨.builtin .len, #[t31], #[23]⟩), .n 33 (.binOp .eql 3 t32 (.const (.int .i64 1)) 3), .n 34 (.move t33), .g (some 35) (.move t1) 34 true, .g (some 36) (.indexAddr 23 t35 (.const (.int .i64 0))) 34 true, .g (some 37) (.load 3 t36) 34 true, .g (some 38) (.binOp .geq 3 t37 (.const (.int .i64 0)) 3) 34 true, .n 39 (.pick t34 t38 (.const (.bool false))), .n 40 (.move t39), .g (some 41) (.move t1) 40 true, .g (some 42) (.indexAddr 23 t41 (.const (.int .i64 0))) 40 true, .g (some 43) (.load 3 t42) 40 true, .g (some 44) (.binOp .leq 3 t43 (.const (.int .i64 16)) 3) 40 true, .n 45 (.pick t40 t44 (.const (.bool false))), .n 4 (.assign t45)]) .r) (.q (.R [.n 47 (.binOp .eql 22 t28 (.const (.int .i64 9)) 22), .n 46 (.assign t47)]) (.c t46 (.q (.D true [.n 48 (.move t1), .n 49 (.call ⟨.builtin .len, #[t48], #[23]⟩), .n 50 (.binOp .eql 3 t49 (.const (.int .i64 2)) 3), .n 51 (.move t50), .g (some 52) (.move t1) 51 true, .g (some 53) (.indexAddr 23 t52 (.const (.int .i64 1))) 51 true, .g (some 54) (.load 3 t53) 51 true, .g (some 55) (.binOp .geq 3 t54 (.const (.int .i64 1)) 3) 51 true, .n 56 (.pick t51 t55 (.const (.bool false))), .n 57 (.move t56), .g (some 58) (.move t1) 57 true, .g (some 59) (.indexAddr 23 t58 (.const (.int .i64 0))) 57 true, .g (some 60) (.load 3 t59) 57 true, .g (some 61) (.move t1) 57 true, .g (some 62) (.indexAddr 23 t61 (.const (.int .i64 1))) 57 true, .g (some 63) (.load 3 t62) 57 true, .g (some 64) (.call ⟨.value (.func 55), #[t60, t63], #[3, 3]⟩) 57 true, .g (some 65) (.unOp .not 4 t64) 57 true, .n 66 (.pick t57 t65 (.const (.bool false))), .n 4 (.assign t66)]) .r) (.q (.R [.n 68 (.binOp .eql 22 t28 (.const (.int .i64 11)) 22), .n 67 (.assign t68)]) (.c t67 (.q (.q (.R [.n 6 (.assign (.const (.int .i64 0)))]) (.b 3 (.l (.q (.q (.R [.n 69 (.move t6), .n 70 (.move t1), .n 71 (.call ⟨.builtin .len, #[t70], #[23]⟩), .n 72 (.binOp .lss 3 t69 t71 3)]) (.c t72 .s (.x 3))) (.q (.b 4 (.q (.q (.R [.n 75 (.move t1), .n 76 (.move t6), .n 77 (.indexAddr 23 t75 t76), .n 78 (.load 3 t77), .n 79 (.binOp .lss 3 t78 (.const (.int .i64 0)) 3), .n 80 (.move t79), .g (some 81) (.move t1) 80 false, .g (some 82) (.move t6) 80 false, .g (some 83) (.indexAddr 23 t81 t82) 80 false, .g (some 84) (.load 3 t83) 80 false, .g (some 85) (.move t1) 80 false, .g (some 86) (.call ⟨.builtin .len, #[t85], #[23]⟩) 80 false, .g (some 87) (.binOp .geq 3 t84 t86 3) 80 false, .n 88 (.pick t80 (.const (.bool true)) t87)]) (.c t88 (.q (.R [.n 4 (.assign (.const (.bool false)))]) .r) .s)) (.q (.R [.n 7 (.assign (.const (.int .i64 0)))]) (.b 5 (.l (.q (.q (.R [.n 89 (.move t7), .n 90 (.move t6), .n 91 (.binOp .lss 3 t89 t90 3)]) (.c t91 .s (.x 5))) (.q (.b 6 (.q (.D true [.n 94 (.move t1), .n 95 (.move t7), .n 96 (.indexAddr 23 t94 t95), .n 97 (.load 3 t96), .n 98 (.move t1), .n 99 (.move t6), .n 100 (.indexAddr 23 t98 t99), .n 101 (.load 3 t100), .n 102 (.binOp .eql 3 t97 t101 3)]) (.c t102 (.q (.R [.n 4 (.assign (.const (.bool false)))]) .r) .s))) (.R [.n 92 (.move t7), .n 93 (.binOp .add 3 t92 (.const (.int .i64 1)) 3), .n 7 (.assign t93)])))))))) (.R [.n 73 (.move t6), .n 74 (.binOp .add 3 t73 (.const (.int .i64 1)) 3), .n 6 (.assign t74)])))))) (.q (.R [.n 103 (.move t1), .n 104 (.call ⟨.builtin .len, #[t103], #[23]⟩), .n 105 (.binOp .leq 3 t104 (.const (.int .i64 4)) 3), .n 4 (.assign t105)]) .r)) (.q (.q (.R [.n 107 (.binOp .eql 22 t28 (.const (.int .i64 12)) 22), .n 106 (.assign t107)]) (.c t106 .s (.R [.n 108 (.binOp .eql 22 t28 (.const (.int .i64 13)) 22), .n 106 (.assign t108)]))) (.c t106 (.q (.R [.n 109 (.move t1), .n 110 (.call ⟨.value (.func 18), #[t109], #[23]⟩), .n 111 (.binOp .eql 3 t110 (.const (.int .i64 0)) 3), .n 4 (.assign t111)]) .r) (.q (.q (.R [.n 113 (.binOp .eql 22 t28 (.const (.int .i64 14)) 22), .n 112 (.assign t113)]) (.c t112 .s (.R [.n 114 (.binOp .eql 22 t28 (.const (.int .i64 20)) 22), .n 112 (.assign t114)]))) (.c t112 (.q (.q (.R [.n 8 (.assign (.const (.int .i64 0)))]) (.b 7 (.l (.q (.q (.R [.n 115 (.move t8), .n 116 (.move t1), .n 117 (.call ⟨.builtin .len, #[t116], #[23]⟩), .n 118 (.binOp .lss 3 t115 t117 3)]) (.c t118 .s (.x 7))) (.q (.b 8 (.q (.D true [.n 121 (.move t1), .n 122 (.move t8), .n 123 (.indexAddr 23 t121 t122), .n 124 (.load 3 t123), .n 125 (.binOp .lss 3 t124 (.const (.int .i64 0)) 3), .n 126 (.move t125), .g (some 127) (.move t1) 126 false, .g (some 128) (.move t8) 126 false, .g (some 129) (.indexAddr 23 t127 t128) 126 false, .g (some 130) (.load 3 t129) 126 false, .g (some 131) (.binOp .gtr 3 t130 (.const (.int .i64 3)) 3) 126 false, .n 132 (.pick t126 (.const (.bool true)) t131), .n 133 (.move t132), .g (some 134) (.move t8) 133 false, .g (some 135) (.binOp .gtr 3 t134 (.const (.int .i64 0)) 3) 133 false, .g (some 136) (.move t135) 133 false, .g (some 137) (.move t1) 136 true, .g (some 138) (.move t8) 136 true, .g (some 139) (.indexAddr 23 t137 t138) 136 true, .g (some 140) (.load 3 t139) 136 true, .g (some 141) (.move t1) 136 true, .g (some 142) (.move t8) 136 true, .g (some 143) (.binOp .sub 3 t142 (.const (.int .i64 1)) 3) 136 true, .g (some 144) (.indexAddr 23 t141 t143) 136 true, .g (some 145) (.load 3 t144) 136 true, .g (some 146) (.binOp .leq 3 t140 t145 3) 136 true, .g (some 147) (.pick t136 t146 (.const (.bool false))) 133 false, .n 148 (.pick t133 (.const (.bool true)) t147)]) (.c t148 (.q (.R [.n 4 (.assign (.const (.bool false)))]) .r) .s))) (.R [.n 119 (.move t8), .n 120 (.binOp .add 3 t119 (.const (.int .i64 1)) 3), .n 8 (.assign t120)])))))) (.q (.R [.n 4 (.assign (.const (.bool true)))]) .r)) (.q (.q (.R [.n 150 (.binOp .eql 22 t28 (.const (.int .i64 15)) 22), .n 149 (.assign t150)]) (.c t149 .s (.R [.n 151 (.binOp .eql 22 t28 (.const (.int .i64 16)) 22), .n 149 (.assign t151)]))) (.c t149 (.q (.q (.R [.n 152 (.move t1), .n 153 (.call ⟨.builtin .len, #[t152], #[23]⟩), .n 154 (.binOp .rem 3 t153 (.const (.int .i64 2)) 3), .n 155 (.binOp .eql 3 t154 (.const (.int .i64 1)) 3), .n 156 (.move t155), .g (some 157) (.move t1) 156 false, .g (some 158) (.call ⟨.builtin .len, #[t157], #[23]⟩) 156 false, .g (some 159) (.binOp .gtr 3 t158 (.const (.int .i64 8)) 3) 156 false, .n 160 (.pick t156 (.const (.bool true)) t159)]) (.c t160 (.q (.R [.n 4 (.assign (.const (.bool false)))]) .r) .s)) (.q (.q (.R [.n 9 (.assign (.const (.int .i64 0)))]) (.b 9 (.l (.q (.q (.R [.n 161 (.move t9), .n 162 (.move t1), .n 163 (.call ⟨.builtin .len, #[t162], #[23]⟩), .n 164 (.binOp .lss 3 t161 t163 3)]) (.c t164 .s (.x 9))) (.q (.b 10 (.q (.D true [.n 167 (.move t1), .n 168 (.move t9), .n 169 (.indexAddr 23 t167 t168), .n 170 (.load 3 t169), .n 171 (.binOp .lss 3 t170 (.const (.int .i64 0)) 3), .n 172 (.move t171), .g (some 173) (.move t1) 172 false, .g (some 174) (.move t9) 172 false, .g (some 175) (.binOp .add 3 t174 (.const (.int .i64 1)) 3) 172 false, .g (some 176) (.indexAddr 23 t173 t175) 172 false, .g (some 177) (.load 3 t176) 172 false, .g (some 178) (.binOp .lss 3 t177 (.const (.int .i64 0)) 3) 172 false, .n 179 (.pick t172 (.const (.bool true)) t178), .n 180 (.move t179), .g (some 181) (.move t0) 180 false, .g (some 182) (.binOp .eql 22 t181 (.const (.int .i64 15)) 22) 180 false, .g (some 183) (.move t182) 180 false, .g (some 184) (.move t1) 183 true, .g (some 185) (.move t9) 183 true, .g (some 186) (.binOp .add 3 t185 (.const (.int .i64 1)) 3) 183 true, .g (some 187) (.indexAddr 23 t184 t186) 183 true, .g (some 188) (.load 3 t187) 183 true, .g (some 189) (.move t1) 183 true, .g (some 190) (.move t9) 183 true, .g (some 191) (.indexAddr 23 t189 t190) 183 true, .g (some 192) (.load 3 t191) 183 true, .g (some 193) (.binOp .leq 3 t188 t192 3) 183 true, .g (some 194) (.pick t183 t193 (.const (.bool false))) 180 false, .n 195 (.pick t180 (.const (.bool true)) t194)]) (.c t195 (.q (.R [.n 4 (.assign (.const (.bool false)))]) .r) .s))) (.R [.n 165 (.move t9), .n 166 (.binOp .add 3 t165 (.const (.int .i64 2)) 3), .n 9 (.assign t166)])))))) (.q (.R [.n 4 (.assign (.const (.bool true)))]) .r))) (.q (.R [.n 197 (.binOp .eql 22 t28 (.const (.int .i64 17)) 22), .n 196 (.assign t197)]) (.c t196 (.q (.R [.n 198 (.move t1), .n 199 (.call ⟨.builtin .len, #[t198], #[23]⟩), .n 200 (.binOp .eql 3 t199 (.const (.int .i64 1)) 3), .n 201 (.move t200), .g (some 202) (.move t1) 201 true, .g (some 203) (.indexAddr 23 t202 (.const (.int .i64 0))) 201 true, .g (some 204) (.load 3 t203) 201 true, .g (some 205) (.binOp .geq 3 t204 (.const (.int .i64 0)) 3) 201 true, .n 206 (.pick t201 t205 (.const (.bool false))), .n 207 (.move t206), .g (some 208) (.move t1) 207 true, .g (some 209) (.indexAddr 23 t208 (.const (.int .i64 0))) 207 true, .g (some 210) (.load 3 t209) 207 true, .g (some 211) (.binOp .leq 3 t210 (.const (.int .i64 3)) 3) 207 true, .n 212 (.pick t207 t211 (.const (.bool false))), .n 4 (.assign t212)]) .r) .s)))))))))))))))) (.q (.R [.n 213 (.move t1), .n 214 (.call ⟨.builtin .len, #[t213], #[23]⟩), .n 215 (.binOp .eql 3 t214 (.const (.int .i64 0)) 3), .n 4 (.assign t215)]) .r)))) := by kernel_rfl
end Go.Proofs.Ytlomgfdepllanaa
end

section
set_option maxRecDepth 100000
namespace Go.Proofs.Ytlomgfdepllanaa
open Go Go.Bv
/-! fluxion/fluxionref11.Check -/
theorem w14 : Try.f14.body.map (absT C) = some (.q (.R [.n 3 (.box 25 t1), .n 4 (.assign (.const (.int .i64 0)))]) (.q (.q (.R [.n 7 (.move t0), .n 8 (.binOp .lss 3 t7 (.const (.int .i64 1)) 3), .n 9 (.move t8), .g (some 10) (.move t0) 9 false, .g (some 11) (.binOp .gtr 3 t10 (.const (.int .i64 3)) 3) 9 false, .n 12 (.pick t9 (.const (.bool true)) t11)]) (.c t12 (.q (.R [.n 4 (.assign (.const (.int .i64 8)))]) .r) .s)) (.q (.q (.R [.n 13 (.fieldAddr 25 t3 0), .n 14 (.load 22 t13), .n 15 (.move t0), .n 16 (.call ⟨.value (.func 15), #[t14, t15], #[22, 3]⟩), .n 17 (.unOp .not 4 t16)]) (.c t17 (.q (.R [.n 4 (.assign (.const (.int .i64 9)))]) .r) .s)) (.q (.R [.n 19 (.fieldAddr 25 t3 0), .n 20 (.load 22 t19), .n 21 (.call ⟨.value (.func 27), #[t20], #[22]⟩), .n 18 (.move t21), .n 22 (.extract t18 0), .n 23 (.extract t18 1), .n 5 (.assign t22), .n 6 (.assign t23)]) (.q (.q (.R [.n 24 (.fieldAddr 25 t3 1), .n 25 (.load 23 t24), .n 26 (.call ⟨.builtin .len, #[t25], #[23]⟩), .n 27 (.move t5), .n 28 (.binOp .lss 3 t26 t27 3), .n 29 (.move t28), .g (some 30) (.fieldAddr 25 t3 1) 29 false, .g (some 31) (.load 23 t30) 29 false, .g (some 32) (.call ⟨.builtin .len, #[t31], #[23]⟩) 29 false, .g (some 33) (.move t6) 29 false, .g (some 34) (.binOp .gtr 3 t32 t33 3) 29 false, .n 35 (.pick t29 (.const (.bool true)) t34)]) (.c t35 (.q (.R [.n 4 (.assign (.const (.int .i64 10)))]) .r) .s)) (.q (.q (.R [.n 36 (.fieldAddr 25 t3 2), .n 37 (.load 23 t36), .n 38 (.call ⟨.builtin .len, #[t37], #[23]⟩), .n 39 (.binOp .eql 3 t38 (.const (.int .i64 0)) 3), .n 40 (.move t39), .g (some 41) (.move t0) 40 true, .g (some 42) (.fieldAddr 25 t3 0) 40 true, .g (some 43) (.load 22 t42) 40 true, .g (some 44) (.call ⟨.value (.func 17), #[t41, t43], #[3, 22]⟩) 40 true, .n 45 (.pick t40 t44 (.const (.bool false)))]) (.c t45 (.q (.R [.n 4 (.assign (.const (.int .i64 0)))]) .r) .s)) (.q (.q (.R [.n 46 (.fieldAddr 25 t3 0), .n 47 (.load 22 t46), .n 48 (.fieldAddr 25 t3 2), .n 49 (.load 23 t48), .n 50 (.call ⟨.value (.func 28), #[t47, t49], #[22, 23]⟩), .n 51 (.unOp .not 4 t50)]) (.c t51 (.q (.R [.n 4 (.assign (.const (.int .i64 11)))]) .r) .s)) (.q (.R [.n 4 (.assign (.const (.int .i64 0)))]) .r)))))))) := by kernel_rfl
/-! fluxion/fluxionref11.Explicit -/
theorem w16 : Try.f16.body.map (absT C) = some (.q (.R [.n 4 (.box 25 t1), .n 6 (.assign (.const (.slice none 0 0)))]) (.q (.q (.R [.n 10 (.move t0), .n 11 (.load 25 t4), .n 12 (.call ⟨.value (.func 14), #[t10, t11], #[3, 25]⟩), .n 13 (.binOp .neq 3 t12 (.const (.int .i64 0)) 3), .n 14 (.move t13), .g (some 15) (.fieldAddr 25 t4 2) 14 false, .g (some 16) (.load 23 t15) 14 false, .g (some 17) (.call ⟨.builtin .len, #[t16], #[23]⟩) 14 false, .g (some 18) (.binOp .gtr 3 t17 (.const (.int .i64 0)) 3) 14 false, .n 19 (.pick t14 (.const (.bool true)) t18), .n 20 (.move t19), .g (some 21) (.move t0) 20 false, .g (some 22) (.fieldAddr 25 t4 0) 20 false, .g (some 23) (.load 22 t22) 20 false, .g (some 24) (.call ⟨.value (.func 17), #[t21, t23], #[3, 22]⟩) 20 false, .g (some 25) (.unOp .not 4 t24) 20 false, .n 26 (.pick t20 (.const (.bool true)) t25)]) (.c t26 (.q (.R [.n 27 (.fieldAddr 25 t4 2), .n 28 (.load 23 t27), .n 6 (.assign t28)]) .r) .s)) (.q (.q (.R [.n 29 (.move t2), .n 30 (.binOp .lss 3 t29 (.const (.int .i64 0)) 3), .n 31 (.move t30), .g (some 32) (.move t2) 31 false, .g (some 33) (.binOp .gtr 3 t32 (.const (.int .i64 4)) 3) 31 false, .n 34 (.pick t31 (.const (.bool true)) t33)]) (.c t34 (.R [.n 2 (.assign (.const (.int .i64 0)))]) .s)) (.q (.R [.n 7 (.assign (.const (.slice none 0 0)))]) (.q (.q (.R [.n 35 (.fieldAddr 25 t4 0), .n 36 (.load 22 t35)]) (.b 0 (.q (.R [.n 38 (.binOp .eql 22 t36 (.const (.int .i64 6)) 22), .n 37 (.assign t38)]) (.c t37 (.q (.R [.n 39 (.buildSlice 23 1 #[(0, .const (.int .i64 2))]), .n 6 (.assign t39)]) .r) (.q (.R [.n 41 (.binOp .eql 22 t36 (.const (.int .i64 17)) 22), .n 40 (.assign t41)]) (.c t40 (.q (.R [.n 42 (.buildSlice 23 1 #[(0, .const (.int .i64 0))]), .n 6 (.assign t42)]) .r) (.q (.R [.n 44 (.binOp .eql 22 t36 (.const (.int .i64 11)) 22), .n 43 (.assign t44)]) (.c t43 (.q (.q (.R [.n 45 (.move t2), .n 46 (.binOp .sub 3 t45 (.const (.int .i64 1)) 3), .n 8 (.assign t46)]) (.b 1 (.l (.q (.q (.R [.n 47 (.move t8), .n 48 (.binOp .geq 3 t47 (.const (.int .i64 0)) 3)]) (.c t48 .s (.x 1))) (.q (.b 2 (.R [.n 51 (.move t7), .n 52 (.move t8), .n 53 (.buildSlice 23 1 #[(0, t52)]), .n 54 (.call ⟨.builtin .append, #[t51, t53], #[23, 23]⟩), .n 7 (.assign t54)])) (.R [.n 49 (.move t8), .n 50 (.binOp .sub 3 t49 (.const (.int .i64 1)) 3), .n 8 (.assign t50)])))))) (.q (.R [.n 55 (.move t7), .n 6 (.assign t55)]) .r)) .s)))))))) (.q (.q (.R [.n 9 (.assign (.const (.int .i64 0)))]) (.b 3 (.l (.q (.q (.R [.n 56 (.move t9), .n 57 (.move t2), .n 58 (.binOp .lss 3 t56 t57 3)]) (.c t58 .s (.x 3))) (.q (.b 4 (.R [.n 61 (.move t7), .n 62 (.move t9), .n 63 (.buildSlice 23 1 #[(0, t62)]), .n 64 (.call ⟨.builtin .append, #[t61, t63], #[23, 23]⟩), .n 7 (.assign t64)])) (.R [.n 59 (.move t9), .n 60 (.binOp .add 3 t59 (.const (.int .i64 1)) 3), .n 9 (.assign t60)])))))) (.q (.R [.n 65 (.move t7), .n 6 (.assign t65)]) .r))))))) := by kernel_rfl
/-! fluxion/fluxionref12.matrix -/
theorem w49 : Try.f49.body.map (absT C) = some (.q (.R [.n 4 (.assign (.const (.slice none 0 0))), .n 5 (.assign (.const (.int .i64 0)))]) (.q (.q (.R [.n 6 (.move t0), .n 7 (.call ⟨.builtin .len, #[t6], #[23]⟩), .n 8 (.binOp .neq 3 t7 (.const (.int .i64 2)) 3), .n 9 (.move t8), .g (some 10) (.move t1) 9 false, .g (some 11) (.call ⟨.builtin .len, #[t10], #[23]⟩) 9 false, .g (some 12) (.binOp .neq 3 t11 (.const (.int .i64 2)) 3) 9 false, .n 13 (.pick t9 (.const (.bool true)) t12)]) (.c t13 (.q (.R [.n 4 (.assign (.const (.slice none 0 0))), .n 5 (.assign (.const (.int .i64 13)))]) .r) .s)) (.q (.q (.D true [.n 14 (.move t0), .n 15 (.indexAddr 23 t14 (.const (.int .i64 1))), .n 16 (.load 3 t15), .n 17 (.move t1), .n 18 (.indexAddr 23 t17 (.const (.int .i64 0))), .n 19 (.load 3 t18), .n 20 (.binOp .neq 3 t16 t19 3)]) (.c t20 (.q (.R [.n 4 (.assign (.const (.slice none 0 0))), .n 5 (.assign (.const (.int .i64 13)))]) .r) .s)) (.q (.D true [.n 21 (.move t0), .n 22 (.indexAddr 23 t21 (.const (.int .i64 0))), .n 23 (.load 3 t22), .n 24 (.move t1), .n 25 (.indexAddr 23 t24 (.const (.int .i64 1))), .n 26 (.load 3 t25), .n 27 (.buildSlice 23 2 #[(0, t23), (1, t26)]), .n 4 (.assign t27), .n 5 (.assign (.const (.int .i64 0)))]) .r)))) := by kernel_rfl
/-! fluxion/fluxionref12.pad -/
theorem w53 : Try.f53.body.map (absT C) = some (.q (.R [.n 4 (.assign (.const (.slice none 0 0))), .n 5 (.assign (.const (.int .i64 0)))]) (.q (.q (.R [.n 8 (.move t1), .n 9 (.call ⟨.builtin .len, #[t8], #[23]⟩), .n 10 (.move t0), .n 11 (.call ⟨.builtin .len, #[t10], #[23]⟩), .n 12 (.binOp .mul 3 (.const (.int .i64 2)) t11 3), .n 13 (.binOp .neq 3 t9 t12 3)]) (.c t13 (.q (.R [.n 4 (.assign (.const (.slice none 0 0))), .n 5 (.assign (.const (.int .i64 13)))]) .r) .s)) (.q (.R [.n 6 (.assign (.const (.slice none 0 0)))]) (.q (.q (.R [.n 7 (.assign (.const (.int .i64 0)))]) (.b 0 (.l (.q (.q (.R [.n 14 (.move t7), .n 15 (.move t0), .n 16 (.call ⟨.builtin .len, #[t15], #[23]⟩), .n 17 (.binOp .lss 3 t14 t16 3)]) (.c t17 .s (.x 0))) (.q (.b 1 (.D true [.n 20 (.move t6), .n 21 (.move t1), .n 22 (.move t7), .n 23 (.binOp .mul 3 (.const (.int .i64 2)) t22 3), .n 24 (.indexAddr 23 t21 t23), .n 25 (.load 3 t24), .n 26 (.move t0), .n 27 (.move t7), .n 28 (.indexAddr 23 t26 t27), .n 29 (.load 3 t28), .n 30 (.binOp .add 3 t25 t29 3), .n 31 (.move t1), .n 32 (.move t7), .n 33 (.binOp .mul 3 (.const (.int .i64 2)) t32 3), .n 34 (.binOp .add 3 t33 (.const (.int .i64 1)) 3), .n 35 (.indexAddr 23 t31 t34), .n 36 (.load 3 t35), .n 37 (.binOp .add 3 t30 t36 3), .n 38 (.buildSlice 23 1 #[(0, t37)]), .n 39 (.call ⟨.builtin .append, #[t20, t38], #[23, 23]⟩), .n 6 (.assign t39)])) (.R [.n 18 (.move t7), .n 19 (.binOp .add 3 t18 (.const (.int .i64 1)) 3), .n 7 (.assign t19)])))))) (.q (.R [.n 40 (.move t6), .n 4 (.assign t40), .n 5 (.assign (.const (.int .i64 0)))]) .r))))) := by kernel_rfl
/-! fluxion/fluxionref12.slice -/
theorem w52 : Try.f52.body.map (absT C) = some (.q (.R [.n 4 (.assign (.const (.slice none 0 0))), .n 5 (.assign (.const (.int .i64 0)))]) (.q (.q (.R [.n 8 (.move t1), .n 9 (.call ⟨.builtin .len, #[t8], #[23]⟩), .n 10 (.move t0), .n 11 (.call ⟨.builtin .len, #[t10], #[23]⟩), .n 12 (.binOp .mul 3 (.const (.int .i64 2)) t11 3), .n 13 (.binOp .neq 3 t9 t12 3)]) (.c t13 (.q (.R [.n 4 (.assign (.const (.slice none 0 0))), .n 5 (.assign (.const (.int .i64 13)))]) .r) .s)) (.q (.R [.n 6 (.assign (.const (.slice none 0 0)))]) (.q (.q (.R [.n 7 (.assign (.const (.int .i64 0)))]) (.b 0 (.l (.q (.q (.R [.n 14 (.move t7), .n 15 (.move t0), .n 16 (.call ⟨.builtin .len, #[t15], #[23]⟩), .n 17 (.binOp .lss 3 t14 t16 3)]) (.c t17 .s (.x 0))) (.q (.b 1 (.q (.q (.D true [.n 20 (.move t1), .n 21 (.move t7), .n 22 (.binOp .mul 3 (.const (.int .i64 2)) t21 3), .n 23 (.binOp .add 3 t22 (.const (.int .i64 1)) 3), .n 24 (.indexAddr 23 t20 t23), .n 25 (.load 3 t24), .n 26 (.move t0), .n 27 (.move t7), .n 28 (.indexAddr 23 t26 t27), .n 29 (.load 3 t28), .n 30 (.binOp .gtr 3 t25 t29 3)]) (.c t30 (.q (.R [.n 4 (.assign (.const (.slice none 0 0))), .n 5 (.assign (.const (.int .i64 13)))]) .r) .s)) (.D true [.n 31 (.move t6), .n 32 (.move t1), .n 33 (.move t7), .n 34 (.binOp .mul 3 (.const (.int .i64 2)) t33 3), .n 35 (.binOp .add 3 t34 (.const (.int .i64 1)) 3), .n 36 (.indexAddr 23 t32 t35), .n 37 (.load 3 t36), .n 38 (.move t1), .n 39 (.move t7), .n 40 (.binOp .mul 3 (.const (.int .i64 2)) t39 3), .n 41 (.indexAddr 23 t38 t40), .n 42 (.load 3 t41), .n 43 (.binOp .sub 3 t37 t42 3), .n 44 (.buildSlice 23 1 #[(0, t43)]), .n 45 (.call ⟨.builtin .append, #[t31, t44], #[23, 23]⟩), .n 6 (.assign t45)]))) (.R [.n 18 (.move t7), .n 19 (.binOp .add 3 t18 (.const (.int .i64 1)) 3), .n 7 (.assign t19)])))))) (.q (.R [.n 46 (.move t6), .n 4 (.assign t46), .n 5 (.assign (.const (.int .i64 0)))]) .r))))) := by kernel_rfl
/-! fluxion/fluxionref12.concat -/
theorem w54 : Try.f54.body.map (absT C) = some (.q (.R [.n 4 (.assign (.const (.slice none 0 0))), .n 5 (.assign (.const (.int .i64 0)))]) (.q (.R [.n 10 (.move t1), .n 11 (.indexAddr 34 t10 (.const (.int .i64 0))), .n 12 (.load 23 t11), .n 6 (.assign t12)]) (.q (.q (.R [.n 13 (.move t0), .n 14 (.move t6), .n 15 (.call ⟨.builtin .len, #[t14], #[23]⟩), .n 16 (.binOp .geq 3 t13 t15 3)]) (.c t16 (.q (.R [.n 4 (.assign (.const (.slice none 0 0))), .n 5 (.assign (.const (.int .i64 13)))]) .r) .s)) (.q (.R [.n 17 (.move t6), .n 18 (.call ⟨.builtin .append, #[.const (.slice none 0 0), t17], #[23, 23]⟩), .n 7 (.assign t18)]) (.q (.q (.R [.n 8 (.assign (.const (.int .i64 1)))]) (.b 0 (.l (.q (.q (.R [.n 19 (.move t8), .n 20 (.move t1), .n 21 (.call ⟨.builtin .len, #[t20], #[34]⟩), .n 22 (.binOp .lss 3 t19 t21 3)]) (.c t22 .s (.x 0))) (.q (.b 1 (.q (.q (.R [.n 25 (.move t1), .n 26 (.move t8), .n 27 (.indexAddr 34 t25 t26), .n 28 (.load 23 t27), .n 29 (.call ⟨.builtin .len, #[t28], #[23]⟩), .n 30 (.move t6), .n 31 (.call ⟨.builtin .len, #[t30], #[23]⟩), .n 32 (.binOp .neq 3 t29 t31 3)]) (.c t32 (.q (.R [.n 4 (.assign (.const (.slice none 0 0))), .n 5 (.assign (.const (.int .i64 13)))]) .r) .s)) (.q (.q (.R [.n 9 (.assign (.const (.int .i64 0)))]) (.b 2 (.l (.q (.q (.R [.n 33 (.move t9), .n 34 (.move t6), .n 35 (.call ⟨.builtin .len, #[t34], #[23]⟩), .n 36 (.binOp .lss 3 t33 t35 3)]) (.c t36 .s (.x 2))) (.q (.b 3 (.q (.D true [.n 39 (.move t9), .n 40 (.move t0), .n 41 (.binOp .neq 3 t39 t40 3), .n 42 (.move t41), .g (some 43) (.move t1) 42 true, .g (some 44) (.move t8) 42 true, .g (some 45) (.indexAddr 34 t43 t44) 42 true, .g (some 46) (.load 23 t45) 42 true, .g (some 47) (.move t9) 42 true, .g (some 48) (.indexAddr 23 t46 t47) 42 true, .g (some 49) (.load 3 t48) 42 true, .g (some 50) (.move t6) 42 true, .g (some 51) (.move t9) 42 true, .g (some 52) (.indexAddr 23 t50 t51) 42 true, .g (some 53) (.load 3 t52) 42 true, .g (some 54) (.binOp .neq 3 t49 t53 3) 42 true, .n 55 (.pick t42 t54 (.const (.bool false)))]) (.c t55 (.q (.R [.n 4 (.assign (.const (.slice none 0 0))), .n 5 (.assign (.const (.int .i64 13)))]) .r) .s))) (.R [.n 37 (.move t9), .n 38 (.binOp .add 3 t37 (.const (.int .i64 1)) 3), .n 9 (.assign t38)])))))) (.D true [.n 56 (.move t7), .n 57 (.move t0), .n 58 (.move t7), .n 59 (.move t0), .n 60 (.indexAddr 23 t58 t59), .n 61 (.load 3 t60), .n 62 (.move t1), .n 63 (.move t8), .n 64 (.indexAddr 34 t62 t63), .n 65 (.load 23 t64), .n 66 (.move t0), .n 67 (.indexAddr 23 t65 t66), .n 68 (.load 3 t67), .n 69 (.binOp .add 3 t61 t68 3), .n 70 (.indexAddr 23 t56 t57), .z (.store 3 t70 t69)])))) (.R [.n 23 (.move t8), .n 24 (.binOp .add 3 t23 (.const (.int .i64 1)) 3), .n 8 (.assign t24)])))))) (.q (.R [.n 71 (.move t7), .n 4 (.assign t71), .n 5 (.assign (.const (.int .i64 0)))]) .r)))))) := by kernel_rfl
/-! fluxion/fluxionref12.come -/
theorem w26 : Try.f26.body.map (absT C) = some (.q (.R [.n 6 (.assign (.const (.slice none 0 0))), .n 7 (.assign (.const (.int .i64 0)))]) (.q (.R [.n 13 (.move t2), .n 14 (.indexAddr 34 t13 (.const (.int .i64 0))), .n 15 (.load 23 t14), .n 8 (.assign t15)]) (.q (.q (.R [.n 16 (.move t0)]) (.b 0 (.q (.q (.R [.n 18 (.binOp .eql 3 t16 (.const (.int .i64 1)) 3), .n 17 (.assign t18)]) (.c t17 .s (.q (.R [.n 19 (.binOp .eql 3 t16 (.const (.int .i64 2)) 3), .n 17 (.assign t19)]) (.c t17 .s (.q (.R [.n 20 (.binOp .eql 3 t16 (.const (.int .i64 3)) 3), .n 17 (.assign t20)]) (.c t17 .s (.R [.n 21 (.binOp .eql 3 t16 (.const (.int .i64 4)) 3), .n 17 (.assign t21)]))))))) (.c t17 (.q (.q (.R [.n 22 (.move t8), .n 23 (.move t2), .n 24 (.indexAddr 34 t23 (.const (.int .i64 1))), .n 25 (.load 23 t24), .n 26 (.call ⟨.value (.func 13), #[t22, t25], #[23, 23]⟩), .n 27 (.unOp .not 4 t26)]) (.c t27 (.q (.R [.n 6 (.assign (.const (.slice none 0 0))), .n 7 (.assign (.const (.int .i64 13)))]) .r) .s)) (.q (.R [.n 28 (.move t8), .n 6 (.assign t28), .n 7 (.assign (.const (.int .i64 0)))]) .r)) (.q (.R [.n 30 (.binOp .eql 3 t16 (.const (.int .i64 10)) 3), .n 29 (.assign t30)]) (.c t29 (.q (.R [.n 31 (.move t8), .n 32 (.move t2), .n 33 (.indexAddr 34 t32 (.const (.int .i64 1))), .n 34 (.load 23 t33), .n 35 (.call ⟨.value (.func 49), #[t31, t34], #[23, 23]⟩), .n 36 (.extract t35 0), .n 37 (.extract t35 1), .n 6 (.assign t36), .n 7 (.assign t37)]) .r) (.q (.R [.n 39 (.binOp .eql 3 t16 (.const (.int .i64 19)) 3), .n 38 (.assign t39)]) (.c t38 (.q (.R [.n 41 (.move t8), .n 42 (.move t2), .n 43 (.indexAddr 34 t42 (.const (.int .i64 1))), .n 44 (.load 23 t43), .n 45 (.call ⟨.value (.func 49), #[t41, t44], #[23, 23]⟩), .n 40 (.move t45), .n 46 (.extract t40 0), .n 47 (.extract t40 1), .n 9 (.assign t46), .n 10 (.assign t47)]) (.q (.q (.R [.n 48 (.move t10), .n 49 (.binOp .neq 3 t48 (.const (.int .i64 0)) 3)]) (.c t49 (.q (.R [.n 50 (.move t10), .n 6 (.assign (.const (.slice none 0 0))), .n 7 (.assign t50)]) .r) .s)) (.q (.q (.R [.n 51 (.move t9), .n 52 (.call ⟨.value (.func 18), #[t51], #[23]⟩), .n 53 (.binOp .neq 3 t52 (.const (.int .i64 0)) 3)]) (.c t53 (.q (.R [.n 6 (.assign (.const (.slice none 0 0))), .n 7 (.assign (.const (.int .i64 14)))]) .r) .s)) (.q (.q (.R [.n 54 (.move t2), .n 55 (.indexAddr 34 t54 (.const (.int .i64 2))), .n 56 (.load 23 t55), .n 57 (.move t9), .n 58 (.call ⟨.value (.func 50), #[t56, t57], #[23, 23]⟩), .n 59 (.binOp .neq 3 t58 (.const (.int .i64 0)) 3)]) (.c t59 (.q (.R [.n 6 (.assign (.const (.slice none 0 0))), .n 7 (.assign (.const (.int .i64 13)))]) .r) .s)) (.q (.R [.n 60 (.move t9), .n 6 (.assign t60), .n 7 (.assign (.const (.int .i64 0)))]) .r))))) (.q (.R [.n 62 (.binOp .eql 3 t16 (.const (.int .i64 11)) 3), .n 61 (.assign t62)]) (.c t61 (.q (.q (.R [.n 63 (.move t1), .n 64 (.call ⟨.builtin .len, #[t63], #[23]⟩), .n 65 (.move t8), .n 66 (.call ⟨.builtin .len, #[t65], #[23]⟩), .n 67 (.binOp .neq 3 t64 t66 3)]) (.c t67 (.q (.R [.n 6 (.assign (.const (.slice none 0 0))), .n 7 (.assign (.const (.int .i64 13)))]) .r) .s)) (.q (.R [.n 11 (.assign (.const (.slice none 0 0)))]) (.q (.q (.R [.n 12 (.assign (.const (.int .i64 0)))]) (.b 1 (.l (.q (.q (.R [.n 68 (.move t12), .n 69 (.move t1), .n 70 (.call ⟨.builtin .len, #[t69], #[23]⟩), .n 71 (.binOp .lss 3 t68 t70 3)]) (.c t71 .s (.x 1))) (.q (.b 2 (.R [.n 74 (.move t11), .n 75 (.move t8), .n 76 (.move t1), .n 77 (.move t12), .n 78 (.indexAddr 23 t76 t77), .n 79 (.load 3 t78), .n 80 (.indexAddr 23 t75 t79), .n 81 (.load 3 t80), .n 82 (.buildSlice 23 1 #[(0, t81)]), .n 83 (.call ⟨.builtin .append, #[t74, t82], #[23, 23]⟩), .n 11 (.assign t83)])) (.R [.n 72 (.move t12), .n 73 (.binOp .add 3 t72 (.const (.int .i64 1)) 3), .n 12 (.assign t73)])))))) (.q (.R [.n 84 (.move t11), .n 6 (.assign t84), .n 7 (.assign (.const (.int .i64 0)))]) .r)))) (.q (.R [.n 86 (.binOp .eql 3 t16 (.const (.int .i64 12)) 3), .n 85 (.assign t86)]) (.c t85 (.q (.q (.R [.n 87 (.move t1), .n 88 (.call ⟨.value (.func 19), #[t87], #[23]⟩), .n 89 (.move t8), .n 90 (.call ⟨.value (.func 19), #[t89], #[23]⟩), .n 91 (.binOp .neq 3 t88 t90 3)]) (.c t91 (.q (.R [.n 6 (.assign (.const (.slice none 0 0))), .n 7 (.assign (.const (.int .i64 13)))]) .r) .s)) (.q (.R [.n 92 (.move t1), .n 6 (.assign t92), .n 7 (.assign (.const (.int .i64 0)))]) .r)) (.q (.R [.n 94 (.binOp .eql 3 t16 (.const (.int .i64 13)) 3), .n 93 (.assign t94)]) (.c t93 (.q (.q (.R [.n 95 (.move t8), .n 96 (.move t1), .n 97 (.call ⟨.value (.func 50), #[t95, t96], #[23, 23]⟩), .n 98 (.binOp .neq 3 t97 (.const (.int .i64 0)) 3)]) (.c t98 (.q (.R [.n 6 (.assign (.const (.slice none 0 0))), .n 7 (.assign (.const (.int .i64 13)))]) .r) .s)) (.q (.R [.n 99 (.move t1), .n 6 (.assign t99), .n 7 (.assign (.const (.int .i64 0)))]) .r)) (.q (.q (.R [.n 101 (.binOp .eql 3 t16 (.const (.int .i64 14)) 3), .n 100 (.assign t101)]) (.c t100 .s (.R [.n 102 (.binOp .eql 3 t16 (.const (.int .i64 20)) 3), .n 100 (.assign t102)]))) (.c t100 (.q (.q (.R [.n 103 (.move t1), .n 104 (.call ⟨.builtin .len, #[t103], #[23]⟩), .n 105 (.binOp .gtr 3 t104 (.const (.int .i64 0)) 3), .n 106 (.move t105), .g (some 107) (.move t1) 106 true, .g (some 108) (.move t1) 106 true, .g (some 109) (.call ⟨.builtin .len, #[t108], #[23]⟩) 106 true, .g (some 110) (.binOp .sub 3 t109 (.const (.int .i64 1)) 3) 106 true, .g (some 111) (.indexAddr 23 t107 t110) 106 true, .g (some 112) (.load 3 t111) 106 true, .g (some 113) (.move t8) 106 true, .g (some 114) (.call ⟨.builtin .len, #[t113], #[23]⟩) 106 true, .g (some 115) (.binOp .geq 3 t112 t114 3) 106 true, .n 116 (.pick t106 t115 (.const (.bool false)))]) (.c t116 (.q (.R [.n 6 (.assign (.const (.slice none 0 0))), .n 7 (.assign (.const (.int .i64 13)))]) .r) .s)) (.q (.R [.n 117 (.move t8), .n 118 (.move t1), .n 119 (.call ⟨.value (.func 51), #[t117, t118], #[23, 23]⟩), .n 6 (.assign t119), .n 7 (.assign (.const (.int .i64 0)))]) .r)) (.q (.R [.n 121 (.binOp .eql 3 t16 (.const (.int .i64 15)) 3), .n 120 (.assign t121)]) (.c t120 (.q (.R [.n 122 (.move t8), .n 123 (.move t1), .n 124 (.call ⟨.value (.func 52), #[t122, t123], #[23, 23]⟩), .n 125 (.extract t124 0), .n 126 (.extract t124 1), .n 6 (.assign t125), .n 7 (.assign t126)]) .r) (.q (.R [.n 128 (.binOp .eql 3 t16 (.const (.int .i64 16)) 3), .n 127 (.assign t128)]) (.c t127 (.q (.R [.n 129 (.move t8), .n 130 (.move t1), .n 131 (.call ⟨.value (.func 53), #[t129, t130], #[23, 23]⟩), .n 132 (.extract t131 0), .n 133 (.extract t131 1), .n 6 (.assign t132), .n 7 (.assign t133)]) .r) (.q (.R [.n 135 (.binOp .eql 3 t16 (.const (.int .i64 17)) 3), .n 134 (.assign t135)]) (.c t134 (.q (.R [.n 136 (.move t1), .n 137 (.indexAddr 23 t136 (.const (.int .i64 0))), .n 138 (.load 3 t137), .n 139 (.move t2), .n 140 (.call ⟨.value (.func 54), #[t138, t139], #[3, 34]⟩), .n 141 (.extract t140 0), .n 142 (.extract t140 1), .n 6 (.assign t141), .n 7 (.assign t142)]) .r) .s)))))))))))))))))))))) (.q (.R [.n 143 (.move t8), .n 6 (.assign t143), .n 7 (.assign (.const (.int .i64 0)))]) .r)))) := by kernel_rfl
/-! fluxion/fluxionref12.Shape -/
theorem w11 : Try.f11.body.map (absT C) = some (.q (.R [.n 4 (.box 25 t1), .n 6 (.assign (.const (.slice none 0 0))), .n 7 (.assign (.const (.int .i64 0)))]) (.q (.R [.n 13 (.move t0), .n 14 (.load 25 t4), .n 15 (.call ⟨.value (.func 14), #[t13, t14], #[3, 25]⟩), .n 8 (.assign t15)]) (.q (.q (.R [.n 16 (.move t8), .n 17 (.binOp .neq 3 t16 (.const (.int .i64 0)) 3)]) (.c t17 (.q (.R [.n 18 (.move t8), .n 6 (.assign (.const (.slice none 0 0))), .n 7 (.assign t18)]) .r) .s)) (.q (.q (.R [.n 19 (.move t2), .n 20 (.call ⟨.builtin .len, #[t19], #[34]⟩), .n 21 (.fieldAddr 25 t4 1), .n 22 (.load 23 t21), .n 23 (.call ⟨.builtin .len, #[t22], #[23]⟩), .n 24 (.binOp .neq 3 t20 t23 3)]) (.c t24 (.q (.R [.n 6 (.assign (.const (.slice none 0 0))), .n 7 (.assign (.const (.int .i64 10)))]) .r) .s)) (.q (.q (.R [.n 9 (.assign (.const (.int .i64 0)))]) (.b 0 (.l (.q (.q (.R [.n 25 (.move t9), .n 26 (.move t2), .n 27 (.call ⟨.builtin .len, #[t26], #[34]⟩), .n 28 (.binOp .lss 3 t25 t27 3)]) (.c t28 .s (.x 0))) (.q (.b 1 (.q (.R [.n 31 (.move t2), .n 32 (.move t9), .n 33 (.indexAddr 34 t31 t32), .n 34 (.load 23 t33), .n 35 (.call ⟨.value (.func 18), #[t34], #[23]⟩), .n 10 (.assign t35)]) (.q (.R [.n 36 (.move t10), .n 37 (.binOp .neq 3 t36 (.const (.int .i64 0)) 3)]) (.c t37 (.q (.R [.n 38 (.move t10), .n 6 (.assign (.const (.slice none 0 0))), .n 7 (.assign t38)]) .r) .s)))) (.R [.n 29 (.move t9), .n 30 (.binOp .add 3 t29 (.const (.int .i64 1)) 3), .n 9 (.assign t30)])))))) (.q (.D true [.n 40 (.fieldAddr 25 t4 0), .n 41 (.load 22 t40), .n 42 (.move t0), .n 43 (.load 25 t4), .n 44 (.move t2), .n 45 (.indexAddr 34 t44 (.const (.int .i64 0))), .n 46 (.load 23 t45), .n 47 (.call ⟨.builtin .len, #[t46], #[23]⟩), .n 48 (.call ⟨.value (.func 16), #[t42, t43, t47], #[3, 25, 3]⟩), .n 49 (.move t2), .n 50 (.call ⟨.value (.func 26), #[t41, t48, t49], #[22, 23, 34]⟩), .n 39 (.move t50), .n 51 (.extract t39 0), .n 52 (.extract t39 1), .n 11 (.assign t51), .n 12 (.assign t52)]) (.q (.q (.R [.n 53 (.move t12), .n 54 (.binOp .neq 3 t53 (.const (.int .i64 0)) 3)]) (.c t54 (.q (.R [.n 55 (.move t12), .n 6 (.assign (.const (.slice none 0 0))), .n 7 (.assign t55)]) .r) .s)) (.q (.q (.R [.n 56 (.move t11), .n 57 (.call ⟨.value (.func 18), #[t56], #[23]⟩), .n 58 (.binOp .neq 3 t57 (.const (.int .i64 0)) 3)]) (.c t58 (.q (.R [.n 6 (.assign (.const (.slice none 0 0))), .n 7 (.assign (.const (.int .i64 14)))]) .r) .s)) (.q (.R [.n 59 (.move t11), .n 6 (.assign t59), .n 7 (.assign (.const (.int .i64 0)))]) .r))))))))) := by kernel_rfl
/-! fluxion/fluxionref12.Lists -/
theorem w12 : Try.f12.body.map (absT C) = some (.q (.R [.n 2 (.assign (.const (.slice none 0 0)))]) (.q (.R [.n 3 (.assign (.const (.slice none 0 0)))]) (.q (.q (.R [.n 4 (.assign (.const (.int .i64 0)))]) (.b 0 (.l (.q (.q (.R [.n 5 (.move t4), .n 6 (.move t0), .n 7 (.call ⟨.builtin .len, #[t6], #[26]⟩), .n 8 (.binOp .lss 3 t5 t7 3)]) (.c t8 .s (.x 0))) (.q (.b 1 (.R [.n 11 (.move t3), .n 12 (.move t0), .n 13 (.move t4), .n 14 (.indexAddr 26 t12 t13), .n 15 (.load 28 t14), .n 16 (.buildSlice 34 1 #[(0, t15)]), .n 17 (.call ⟨.builtin .append, #[t11, t16], #[34, 34]⟩), .n 3 (.assign t17)])) (.R [.n 9 (.move t4), .n 10 (.binOp .add 3 t9 (.const (.int .i64 1)) 3), .n 4 (.assign t10)])))))) (.q (.R [.n 18 (.move t3), .n 2 (.assign t18)]) .r)))) := by kernel_rfl
end Go.Proofs.Ytlomgfdepllanaa
end

section
set_option maxRecDepth 100000
namespace Go.Proofs.Ytlomgfdepllanaa
open Go Go.Bv
/-! fluxion/shape.product -/
theorem w34 : Try.f34.body.map (absT C) = some (.q (.R [.n 2 (.assign (.const (.int .i64 0)))]) (.sc (.q (.R [.n 3 (.assign (.const (.int .i64 1)))]) (.q (.lb 0) (.q (.q (.R [.n 6 (.move t0), .n 7 (.call ⟨.builtin .len, #[t6], #[23]⟩), .n 8 (.move (.const (.int .i64 0)))]) (.b 0 (.l (.q (.R [.n 9 (.binOp .lss 3 t8 t7 3)]) (.q (.c t9 .s (.x 0)) (.q (.b 1 (.q (.R [.n 10 (.indexAddr 23 t6 t8), .n 11 (.load 3 t10), .n 5 (.assign t11)]) (.q (.q (.R [.n 12 (.move t5), .n 13 (.move t3), .n 14 (.binOp .quo 3 (.const (.int .i64 1024)) t13 3), .n 15 (.binOp .gtr 3 t12 t14 3)]) (.c t15 (.q (.R [.n 3 (.assign (.const (.int .i64 1025)))]) (.x 0)) .s)) (.R [.n 16 (.move t3), .n 17 (.move t5), .n 18 (.binOp .mul 3 t16 t17 3), .n 3 (.assign t18)])))) (.R [.n 19 (.binOp .add 3 t8 (.const (.int .i64 1)) 3), .n 8 (.move t19)]))))))) (.q (.R [.n 20 (.move t3), .n 2 (.assign t20)]) .r)))))) := by kernel_rfl
/-! fluxion/shape.May -/
theorem w23 : Try.f23.body.map (absT C) = some (.q (.R [.n 2 (.assign (.const (.int .i64 0)))]) (.q (.q (.R [.n 5 (.move t0), .n 6 (.call ⟨.builtin .len, #[t5], #[28]⟩), .n 7 (.binOp .gtr 3 t6 (.const (.int .i64 4)) 3)]) (.c t7 (.q (.R [.n 2 (.assign (.const (.int .i64 14)))]) .r) .s)) (.q (.q (.R [.n 8 (.move t0), .n 9 (.call ⟨.builtin .len, #[t8], #[28]⟩), .n 10 (.move (.const (.int .i64 0)))]) (.b 0 (.l (.q (.R [.n 11 (.binOp .lss 3 t10 t9 3)]) (.q (.c t11 .s (.x 0)) (.q (.b 1 (.q (.R [.n 12 (.indexAddr 28 t8 t10), .n 13 (.load 3 t12), .n 4 (.assign t13)]) (.q (.R [.n 14 (.move t4), .n 15 (.binOp .lss 3 t14 (.const (.int .i64 1)) 3)]) (.c t15 (.q (.R [.n 2 (.assign (.const (.int .i64 13)))]) .r) .s)))) (.R [.n 16 (.binOp .add 3 t10 (.const (.int .i64 1)) 3), .n 10 (.move t16)]))))))) (.q (.q (.R [.n 17 (.move t0), .n 18 (.call ⟨.value (.func 34), #[t17], #[23]⟩), .n 19 (.binOp .gtr 3 t18 (.const (.int .i64 1024)) 3)]) (.c t19 (.q (.R [.n 2 (.assign (.const (.int .i64 14)))]) .r) .s)) (.q (.R [.n 2 (.assign (.const (.int .i64 0)))]) .r))))) := by kernel_rfl
/-! fluxion/shape.Count -/
theorem w29 : Try.f29.body.map (absT C) = some (.q (.R [.n 2 (.assign (.const (.int .i64 0)))]) (.q (.q (.R [.n 3 (.move t0), .n 4 (.call ⟨.value (.func 23), #[t3], #[28]⟩), .n 5 (.binOp .neq 29 t4 (.const (.int .i64 0)) 29)]) (.c t5 (.q (.R [.n 2 (.assign (.const (.int .i64 0)))]) .r) .s)) (.q (.R [.n 6 (.move t0), .n 7 (.call ⟨.value (.func 34), #[t6], #[23]⟩), .n 2 (.assign t7)]) .r))) := by kernel_rfl
/-! fluxion/shape.Same -/
theorem w38 : Try.f38.body.map (absT C) = some (.q (.R [.n 4 (.assign (.const (.bool false)))]) (.q (.R [.n 5 (.move t0), .n 6 (.move t1), .n 7 (.call ⟨.value (.func 59), #[t5, t6], #[28, 28]⟩), .n 4 (.assign t7)]) .r)) := by kernel_rfl
/-! slices.Equal[fluxion/api.Shape,int] -/
theorem w59 : Try.f59.body.map (absT C) = some (.q (.R [.n 4 (.assign (.const (.bool false)))]) (.q (.q (.R [.n 6 (.move t0), .n 7 (.call ⟨.builtin .len, #[t6], #[28]⟩), .n 8 (.move t1), .n 9 (.call ⟨.builtin .len, #[t8], #[28]⟩), .n 10 (.binOp .neq 3 t7 t9 3)]) (.c t10 (.q (.R [.n 4 (.assign (.const (.bool false)))]) .r) .s)) (.q (.q (.R [.n 11 (.move t0), .n 12 (.call ⟨.builtin .len, #[t11], #[28]⟩), .n 13 (.move (.const (.int .i64 0)))]) (.b 0 (.l (.q (.R [.n 14 (.binOp .lss 3 t13 t12 3)]) (.q (.c t14 .s (.x 0)) (.q (.b 1 (.q (.R [.n 15 (.move t13), .n 5 (.assign t15)]) (.q (.D true [.n 16 (.move t0), .n 17 (.move t5), .n 18 (.indexAddr 28 t16 t17), .n 19 (.load 3 t18), .n 20 (.move t1), .n 21 (.move t5), .n 22 (.indexAddr 28 t20 t21), .n 23 (.load 3 t22), .n 24 (.binOp .neq 3 t19 t23 3)]) (.c t24 (.q (.R [.n 4 (.assign (.const (.bool false)))]) .r) .s)))) (.R [.n 25 (.binOp .add 3 t13 (.const (.int .i64 1)) 3), .n 13 (.move t25)]))))))) (.q (.R [.n 4 (.assign (.const (.bool true)))]) .r)))) := by kernel_rfl
/-! fluxion/shape.Fits -/
theorem w40 : Try.f40.body.map (absT C) = some (.q (.R [.n 4 (.assign (.const (.int .i64 0)))]) (.q (.q (.R [.n 11 (.move t0), .n 12 (.move t1), .n 13 (.buildSlice 26 2 #[(0, t11), (1, t12)]), .n 14 (.call ⟨.builtin .len, #[t13], #[26]⟩), .n 15 (.move (.const (.int .i64 0)))]) (.b 0 (.l (.q (.R [.n 16 (.binOp .lss 3 t15 t14 3)]) (.q (.c t16 .s (.x 0)) (.q (.b 1 (.q (.R [.n 17 (.indexAddr 26 t13 t15), .n 18 (.load 28 t17), .n 6 (.assign t18)]) (.q (.R [.n 19 (.move t6), .n 20 (.call ⟨.value (.func 23), #[t19], #[28]⟩), .n 7 (.assign t20)]) (.q (.R [.n 21 (.move t7), .n 22 (.binOp .neq 29 t21 (.const (.int .i64 0)) 29)]) (.c t22 (.q (.R [.n 23 (.move t7), .n 4 (.assign t23)]) .r) .s))))) (.R [.n 24 (.binOp .add 3 t15 (.const (.int .i64 1)) 3), .n 15 (.move t24)]))))))) (.q (.R [.n 25 (.move t1), .n 26 (.call ⟨.builtin .len, #[t25], #[28]⟩), .n 27 (.move t0), .n 28 (.call ⟨.builtin .len, #[t27], #[28]⟩), .n 29 (.binOp .sub 3 t26 t28 3), .n 8 (.assign t29)]) (.q (.q (.R [.n 30 (.move t8), .n 31 (.binOp .lss 3 t30 (.const (.int .i64 0)) 3)]) (.c t31 (.q (.R [.n 4 (.assign (.const (.int .i64 13)))]) .r) .s)) (.q (.q (.R [.n 32 (.move t0), .n 33 (.call ⟨.builtin .len, #[t32], #[28]⟩), .n 34 (.move (.const (.int .i64 0)))]) (.b 2 (.l (.q (.R [.n 35 (.binOp .lss 3 t34 t33 3)]) (.q (.c t35 .s (.x 2)) (.q (.b 3 (.q (.R [.n 36 (.move t34), .n 37 (.indexAddr 28 t32 t34), .n 38 (.load 3 t37), .n 9 (.assign t36), .n 10 (.assign t38)]) (.q (.R [.n 39 (.move t10), .n 40 (.binOp .neq 3 t39 (.const (.int .i64 1)) 3), .n 41 (.move t40), .g (some 42) (.move t10) 41 true, .g (some 43) (.move t1) 41 true, .g (some 44) (.move t8) 41 true, .g (some 45) (.move t9) 41 true, .g (some 46) (.binOp .add 3 t44 t45 3) 41 true, .g (some 47) (.indexAddr 28 t43 t46) 41 true, .g (some 48) (.load 3 t47) 41 true, .g (some 49) (.binOp .neq 3 t42 t48 3) 41 true, .n 50 (.pick t41 t49 (.const (.bool false)))]) (.c t50 (.q (.R [.n 4 (.assign (.const (.int .i64 13)))]) .r) .s)))) (.R [.n 51 (.binOp .add 3 t34 (.const (.int .i64 1)) 3), .n 34 (.move t51)]))))))) (.q (.R [.n 4 (.assign (.const (.int .i64 0)))]) .r)))))) := by kernel_rfl
/-! fluxion/shape.Axes -/
theorem w42 : Try.f42.body.map (absT C) = some (.q (.R [.n 4 (.assign (.const (.int .i64 0)))]) (.q (.R [.n 5 (.assign (.const (.int .i64 (-1))))]) (.q (.q (.R [.n 8 (.move t0), .n 9 (.call ⟨.builtin .len, #[t8], #[23]⟩), .n 10 (.move (.const (.int .i64 0)))]) (.b 0 (.l (.q (.R [.n 11 (.binOp .lss 3 t10 t9 3)]) (.q (.c t11 .s (.x 0)) (.q (.b 1 (.q (.R [.n 12 (.indexAddr 23 t8 t10), .n 13 (.load 3 t12), .n 7 (.assign t13)]) (.q (.q (.R [.n 14 (.move t7), .n 15 (.move t5), .n 16 (.binOp .leq 3 t14 t15 3), .n 17 (.move t16), .g (some 18) (.move t7) 17 false, .g (some 19) (.move t1) 17 false, .g (some 20) (.binOp .geq 3 t18 t19 3) 17 false, .n 21 (.pick t17 (.const (.bool true)) t20)]) (.c t21 (.q (.R [.n 4 (.assign (.const (.int .i64 11)))]) .r) .s)) (.R [.n 22 (.move t7), .n 5 (.assign t22)])))) (.R [.n 23 (.binOp .add 3 t10 (.const (.int .i64 1)) 3), .n 10 (.move t23)]))))))) (.q (.R [.n 4 (.assign (.const (.int .i64 0)))]) .r)))) := by kernel_rfl
/-! slices.Contains[[]int,int] -/
theorem w68 : Try.f68.body.map (absT C) = some (.q (.R [.n 4 (.assign (.const (.bool false)))]) (.q (.R [.n 5 (.move t0), .n 6 (.move t1), .n 7 (.call ⟨.value (.func 79), #[t5, t6], #[23, 3]⟩), .n 8 (.binOp .geq 3 t7 (.const (.int .i64 0)) 3), .n 4 (.assign t8)]) .r)) := by kernel_rfl
/-! slices.Index[[]int,int] -/
theorem w79 : Try.f79.body.map (absT C) = some (.q (.R [.n 4 (.assign (.const (.int .i64 0)))]) (.q (.q (.R [.n 6 (.move t0), .n 7 (.call ⟨.builtin .len, #[t6], #[23]⟩), .n 8 (.move (.const (.int .i64 0)))]) (.b 0 (.l (.q (.R [.n 9 (.binOp .lss 3 t8 t7 3)]) (.q (.c t9 .s (.x 0)) (.q (.b 1 (.q (.R [.n 10 (.move t8), .n 5 (.assign t10)]) (.q (.R [.n 11 (.move t1), .n 12 (.move t0), .n 13 (.move t5), .n 14 (.indexAddr 23 t12 t13), .n 15 (.load 3 t14), .n 16 (.binOp .eql 3 t11 t15 3)]) (.c t16 (.q (.R [.n 17 (.move t5), .n 4 (.assign t17)]) .r) .s)))) (.R [.n 18 (.binOp .add 3 t8 (.const (.int .i64 1)) 3), .n 8 (.move t18)]))))))) (.q (.R [.n 4 (.assign (.const (.int .i64 (-1))))]) .r))) := by kernel_rfl
/-! fluxion/shape.Drop$1 -/
theorem w62 : Try.f62.body.map (absT C) = some (.q (.R [.n 2 (.assign (.const (.slice none 0 0)))]) (.q (.R [.n 3 (.move t0), .n 2 (.assign t3)]) .r)) := by kernel_rfl
/-! fluxion/shape.turned -/
theorem w61 : Try.f61.body.map (absT C) = some (.q (.R [.n 6 (.assign (.const (.slice none 0 0)))]) (.q (.q (.R [.n 9 (.move t0), .n 10 (.call ⟨.builtin .len, #[t9], #[28]⟩), .n 11 (.move (.const (.int .i64 0)))]) (.b 0 (.l (.q (.R [.n 12 (.binOp .lss 3 t11 t10 3)]) (.q (.c t12 .s (.x 0)) (.q (.b 1 (.q (.R [.n 13 (.move t11), .n 14 (.indexAddr 28 t9 t11), .n 15 (.load 3 t14), .n 7 (.assign t13), .n 8 (.assign t15)]) (.q (.R [.n 16 (.move t1), .n 17 (.move t7), .n 18 (.call ⟨.value (.func 68), #[t16, t17], #[23, 3]⟩)]) (.c t18 (.R [.n 19 (.move t2), .n 20 (.move t6), .n 21 (.call ⟨.value t19, #[t20], #[28]⟩), .n 6 (.assign t21)]) (.R [.n 22 (.move t6), .n 23 (.move t8), .n 24 (.buildSlice 28 1 #[(0, t23)]), .n 25 (.call ⟨.builtin .append, #[t22, t24], #[28, 28]⟩), .n 6 (.assign t25)]))))) (.R [.n 26 (.binOp .add 3 t11 (.const (.int .i64 1)) 3), .n 11 (.move t26)]))))))) (.q (.R [.n 27 (.move t6), .n 6 (.assign t27)]) .r))) := by kernel_rfl
/-! fluxion/shape.Drop -/
theorem w43 : Try.f43.body.map (absT C) = some (.q (.R [.n 4 (.assign (.const (.slice none 0 0)))]) (.q (.R [.n 5 (.move t0), .n 6 (.move t1), .n 7 (.call ⟨.value (.func 61), #[t5, t6, .func 62], #[28, 23, 62]⟩), .n 4 (.assign t7)]) .r)) := by kernel_rfl
/-! slices.Clone[fluxion/api.Shape,int] -/
theorem w35 : Try.f35.body.map (absT C) = some (.q (.R [.n 2 (.assign (.const (.slice none 0 0)))]) (.q (.q (.R [.n 3 (.move t0), .n 4 (.binOp .eql 28 t3 (.const (.slice none 0 0)) 28)]) (.c t4 (.q (.R [.n 2 (.assign (.const (.slice none 0 0)))]) .r) .s)) (.q (.R [.n 5 (.buildSlice 28 0 #[]), .n 6 (.move t0), .n 7 (.call ⟨.builtin .append, #[t5, t6], #[28, 28]⟩), .n 2 (.assign t7)]) .r))) := by kernel_rfl
/-! slices.Clone[[]int,int] -/
theorem w36 : Try.f36.body.map (absT C) = some (.q (.R [.n 2 (.assign (.const (.slice none 0 0)))]) (.q (.q (.R [.n 3 (.move t0), .n 4 (.binOp .eql 23 t3 (.const (.slice none 0 0)) 23)]) (.c t4 (.q (.R [.n 2 (.assign (.const (.slice none 0 0)))]) .r) .s)) (.q (.R [.n 5 (.buildSlice 23 0 #[]), .n 6 (.move t0), .n 7 (.call ⟨.builtin .append, #[t5, t6], #[23, 23]⟩), .n 2 (.assign t7)]) .r))) := by kernel_rfl
end Go.Proofs.Ytlomgfdepllanaa
end

section
set_option maxRecDepth 100000
namespace Go.Proofs.Ytlomgfdepllanaa
open Go Go.Bv
/-! fluxion/op.no -/
theorem w70 : Try.f70.body.map (absT C) = some (.q (.R [.n 2 (.assign (.const (.bool false)))]) (.q (.R [.n 3 (.move t0), .n 4 (.call ⟨.builtin .len, #[t3], #[23]⟩), .n 5 (.binOp .eql 3 t4 (.const (.int .i64 0)) 3), .n 2 (.assign t5)]) .r)) := by kernel_rfl
/-! fluxion/op.one -/
theorem w71 : Try.f71.body.map (absT C) = some (.q (.R [.n 1 (.box 3 t0), .n 2 (.assign (.const .nilFunc))]) (.q (.R [.n 3 (.makeFunc (.func 80) #[] #[t1]), .n 2 (.assign t3)]) .r)) := by kernel_rfl
/-! fluxion/op.one$1 -/
theorem w80 : Try.f80.body.map (absT C) = some (.q (.R [.n 3 (.assign (.const (.bool false)))]) (.q (.D true [.n 4 (.move t0), .n 5 (.call ⟨.builtin .len, #[t4], #[23]⟩), .n 6 (.binOp .eql 3 t5 (.const (.int .i64 1)) 3), .n 7 (.move t6), .g (some 8) (.move t0) 7 true, .g (some 9) (.indexAddr 23 t8 (.const (.int .i64 0))) 7 true, .g (some 10) (.load 3 t9) 7 true, .g (some 11) (.binOp .geq 3 t10 (.const (.int .i64 0)) 3) 7 true, .n 12 (.pick t7 t11 (.const (.bool false))), .n 13 (.move t12), .g (some 14) (.move t0) 13 true, .g (some 15) (.indexAddr 23 t14 (.const (.int .i64 0))) 13 true, .g (some 16) (.load 3 t15) 13 true, .g (some 17) (.load 3 t1) 13 true, .g (some 18) (.binOp .leq 3 t16 t17 3) 13 true, .n 19 (.pick t13 t18 (.const (.bool false))), .n 3 (.assign t19)]) .r)) := by kernel_rfl
/-! fluxion/op.reduced -/
theorem w72 : Try.f72.body.map (absT C) = some (.q (.R [.n 2 (.assign (.const (.bool false)))]) (.q (.q (.R [.n 5 (.move t0), .n 6 (.call ⟨.builtin .len, #[t5], #[23]⟩), .n 7 (.binOp .neq 3 t6 (.const (.int .i64 2)) 3), .n 8 (.move t7), .g (some 9) (.move t0) 8 false, .g (some 10) (.indexAddr 23 t9 (.const (.int .i64 1))) 8 false, .g (some 11) (.load 3 t10) 8 false, .g (some 12) (.binOp .lss 3 t11 (.const (.int .i64 1)) 3) 8 false, .n 13 (.pick t8 (.const (.bool true)) t12)]) (.c t13 (.q (.R [.n 2 (.assign (.const (.bool false)))]) .r) .s)) (.q (.D true [.n 14 (.move t0), .n 15 (.indexAddr 23 t14 (.const (.int .i64 0))), .n 16 (.load 3 t15), .n 17 (.move t0), .n 18 (.indexAddr 23 t17 (.const (.int .i64 0))), .n 19 (.load 3 t18), .n 20 (.unOp .neg 3 t19), .n 21 (.call ⟨.builtin .max, #[t16, t20], #[3, 3]⟩), .n 22 (.move t0), .n 23 (.indexAddr 23 t22 (.const (.int .i64 1))), .n 24 (.load 3 t23), .n 3 (.assign t21), .n 4 (.assign t24)]) (.q (.b 0 (.l (.q (.q (.R [.n 25 (.move t4), .n 26 (.binOp .gtr 3 t25 (.const (.int .i64 0)) 3)]) (.c t26 .s (.x 0))) (.b 1 (.D true [.n 27 (.move t4), .n 28 (.move t3), .n 29 (.move t4), .n 30 (.binOp .rem 3 t28 t29 3), .n 3 (.assign t27), .n 4 (.assign t30)]))))) (.q (.R [.n 31 (.move t3), .n 32 (.binOp .eql 3 t31 (.const (.int .i64 1)) 3), .n 2 (.assign t32)]) .r))))) := by kernel_rfl
/-! fluxion/op.dims -/
theorem w74 : Try.f74.body.map (absT C) = some (.q (.R [.n 2 (.assign (.const (.bool false)))]) (.q (.R [.n 3 (.move t0), .n 4 (.call ⟨.value (.func 23), #[t3], #[28]⟩), .n 5 (.binOp .eql 29 t4 (.const (.int .i64 0)) 29), .n 2 (.assign t5)]) .r)) := by kernel_rfl
/-! fluxion/op.rising -/
theorem w75 : Try.f75.body.map (absT C) = some (.q (.R [.n 2 (.assign (.const (.bool false)))]) (.q (.R [.n 3 (.move t0), .n 4 (.call ⟨.value (.func 42), #[t3, .const (.int .i64 4)], #[23, 3]⟩), .n 5 (.binOp .eql 29 t4 (.const (.int .i64 0)) 29), .n 2 (.assign t5)]) .r)) := by kernel_rfl
/-! fluxion/op.pairs -/
theorem w76 : Try.f76.body.map (absT C) = some (.q (.R [.n 1 (.box 79 t0), .n 2 (.assign (.const .nilFunc))]) (.q (.R [.n 3 (.makeFunc (.func 82) #[] #[t1]), .n 2 (.assign t3)]) .r)) := by kernel_rfl
/-! fluxion/op.pairs$1 -/
theorem w82 : Try.f82.body.map (absT C) = some (.q (.R [.n 3 (.assign (.const (.bool false)))]) (.q (.q (.R [.n 5 (.move t0), .n 6 (.call ⟨.builtin .len, #[t5], #[23]⟩), .n 7 (.binOp .rem 3 t6 (.const (.int .i64 2)) 3), .n 8 (.binOp .neq 3 t7 (.const (.int .i64 0)) 3), .n 9 (.move t8), .g (some 10) (.move t0) 9 false, .g (some 11) (.call ⟨.builtin .len, #[t10], #[23]⟩) 9 false, .g (some 12) (.binOp .gtr 3 t11 (.const (.int .i64 8)) 3) 9 false, .n 13 (.pick t9 (.const (.bool true)) t12)]) (.c t13 (.q (.R [.n 3 (.assign (.const (.bool false)))]) .r) .s)) (.q (.q (.R [.n 4 (.assign (.const (.int .i64 0)))]) (.b 0 (.l (.q (.q (.R [.n 14 (.move t4), .n 15 (.move t0), .n 16 (.call ⟨.builtin .len, #[t15], #[23]⟩), .n 17 (.binOp .lss 3 t14 t16 3)]) (.c t17 .s (.x 0))) (.q (.b 1 (.q (.D true [.n 20 (.load 79 t1), .n 21 (.move t0), .n 22 (.move t4), .n 23 (.indexAddr 23 t21 t22), .n 24 (.load 3 t23), .n 25 (.move t0), .n 26 (.move t4), .n 27 (.binOp .add 3 t26 (.const (.int .i64 1)) 3), .n 28 (.indexAddr 23 t25 t27), .n 29 (.load 3 t28), .n 30 (.call ⟨.value t20, #[t24, t29], #[3, 3]⟩), .n 31 (.unOp .not 4 t30)]) (.c t31 (.q (.R [.n 3 (.assign (.const (.bool false)))]) .r) .s))) (.R [.n 18 (.move t4), .n 19 (.binOp .add 3 t18 (.const (.int .i64 2)) 3), .n 4 (.assign t19)])))))) (.q (.R [.n 3 (.assign (.const (.bool true)))]) .r)))) := by kernel_rfl
/-! fluxion/op.cut -/
theorem w77 : Try.f77.body.map (absT C) = some (.q (.R [.n 4 (.assign (.const (.bool false)))]) (.q (.R [.n 5 (.move t0), .n 6 (.binOp .geq 3 t5 (.const (.int .i64 0)) 3), .n 7 (.move t6), .g (some 8) (.move t1) 7 true, .g (some 9) (.move t0) 7 true, .g (some 10) (.binOp .gtr 3 t8 t9 3) 7 true, .n 11 (.pick t7 t10 (.const (.bool false))), .n 4 (.assign t11)]) .r)) := by kernel_rfl
/-! fluxion/op.rim -/
theorem w78 : Try.f78.body.map (absT C) = some (.q (.R [.n 4 (.assign (.const (.bool false)))]) (.q (.R [.n 5 (.move t0), .n 6 (.move t1), .n 7 (.call ⟨.builtin .min, #[t5, t6], #[3, 3]⟩), .n 8 (.binOp .geq 3 t7 (.const (.int .i64 0)) 3), .n 4 (.assign t8)]) .r)) := by kernel_rfl
/-! fluxion/op.table -/
theorem w66 : Try.f66.body.map (absT C) = some (.q (.R [.n 0 (.assign (.const (.slice none 0 0)))]) (.q (.R [.n 1 (.build 57 #[(0, .const (.int .i64 1)), (1, .const (.string { data := #[97, 100, 100] })), (2, .const (.int .i64 1)), (3, .const (.int .i64 3)), (4, .const (.int .i64 2)), (5, .const (.int .i64 2)), (6, .func 70), (7, .const (.int .i64 0))]), .n 2 (.build 57 #[(0, .const (.int .i64 2)), (1, .const (.string { data := #[115, 117, 98] })), (2, .const (.int .i64 1)), (3, .const (.int .i64 3)), (4, .const (.int .i64 2)), (5, .const (.int .i64 2)), (6, .func 70), (7, .const (.int .i64 0))]), .n 3 (.build 57 #[(0, .const (.int .i64 3)), (1, .const (.string { data := #[109, 117, 108] })), (2, .const (.int .i64 1)), (3, .const (.int .i64 3)), (4, .const (.int .i64 2)), (5, .const (.int .i64 2)), (6, .func 70), (7, .const (.int .i64 0))]), .n 4 (.build 57 #[(0, .const (.int .i64 4)), (1, .const (.string { data := #[100, 105, 118] })), (2, .const (.int .i64 1)), (3, .const (.int .i64 3)), (4, .const (.int .i64 2)), (5, .const (.int .i64 2)), (6, .func 70), (7, .const (.int .i64 0))]), .n 5 (.build 57 #[(0, .const (.int .i64 5)), (1, .const (.string { data := #[110, 101, 103] })), (2, .const (.int .i64 1)), (3, .const (.int .i64 3)), (4, .const (.int .i64 1)), (5, .const (.int .i64 1)), (6, .func 70), (7, .const (.int .i64 0))]), .n 6 (.call ⟨.value (.func 71), #[.const (.int .i64 16)], #[3]⟩), .n 7 (.build 57 #[(0, .const (.int .i64 6)), (1, .const (.string { data := #[112, 111, 119] })), (2, .const (.int .i64 1)), (3, .const (.int .i64 3)), (4, .const (.int .i64 1)), (5, .const (.int .i64 1)), (6, t6), (7, .const (.int .i64 1))]), .n 8 (.build 57 #[(0, .const (.int .i64 7)), (1, .const (.string { data := #[114, 101, 108, 117] })), (2, .const (.int .i64 1)), (3, .const (.int .i64 3)), (4, .const (.int .i64 1)), (5, .const (.int .i64 1)), (6, .func 70), (7, .const (.int .i64 0))]), .n 9 (.build 57 #[(0, .const (.int .i64 8)), (1, .const (.string { data := #[115, 116, 101, 112] })), (2, .const (.int .i64 3)), (3, .const (.int .i64 3)), (4, .const (.int .i64 1)), (5, .const (.int .i64 1)), (6, .func 70), (7, .const (.int .i64 0))]), .n 10 (.build 57 #[(0, .const (.int .i64 9)), (1, .const (.string { data := #[115, 99, 97, 108, 101] })), (2, .const (.int .i64 3)), (3, .const (.int .i64 3)), (4, .const (.int .i64 1)), (5, .const (.int .i64 1)), (6, .func 72), (7, .const (.int .i64 0))]), .n 11 (.build 57 #[(0, .const (.int .i64 10)), (1, .const (.string { data := #[109, 97, 116, 109, 117, 108] })), (2, .const (.int .i64 1)), (3, .const (.int .i64 3)), (4, .const (.int .i64 2)), (5, .const (.int .i64 2)), (6, .func 70), (7, .const (.int .i64 0))]), .n 12 (.build 57 #[(0, .const (.int .i64 11)), (1, .const (.string { data := #[116, 114, 97, 110, 115, 112, 111, 115, 101] })), (2, .const (.int .i64 1)), (3, .const (.int .i64 3)), (4, .const (.int .i64 1)), (5, .const (.int .i64 1)), (6, .func 73), (7, .const (.int .i64 1))]), .n 13 (.build 57 #[(0, .const (.int .i64 12)), (1, .const (.string { data := #[114, 101, 115, 104, 97, 112, 101] })), (2, .const (.int .i64 1)), (3, .const (.int .i64 3)), (4, .const (.int .i64 1)), (5, .const (.int .i64 1)), (6, .func 74), (7, .const (.int .i64 0))]), .n 14 (.build 57 #[(0, .const (.int .i64 13)), (1, .const (.string { data := #[98, 114, 111, 97, 100, 99, 97, 115, 116] })), (2, .const (.int .i64 1)), (3, .const (.int .i64 3)), (4, .const (.int .i64 1)), (5, .const (.int .i64 1)), (6, .func 74), (7, .const (.int .i64 0))]), .n 15 (.build 57 #[(0, .const (.int .i64 14)), (1, .const (.string { data := #[115, 117, 109] })), (2, .const (.int .i64 1)), (3, .const (.int .i64 3)), (4, .const (.int .i64 1)), (5, .const (.int .i64 1)), (6, .func 75), (7, .const (.int .i64 2))]), .n 16 (.call ⟨.value (.func 76), #[.func 77], #[79]⟩), .n 17 (.build 57 #[(0, .const (.int .i64 15)), (1, .const (.string { data := #[115, 108, 105, 99, 101] })), (2, .const (.int .i64 1)), (3, .const (.int .i64 3)), (4, .const (.int .i64 1)), (5, .const (.int .i64 1)), (6, t16), (7, .const (.int .i64 0))]), .n 18 (.call ⟨.value (.func 76), #[.func 78], #[79]⟩), .n 19 (.build 57 #[(0, .const (.int .i64 16)), (1, .const (.string { data := #[112, 97, 100] })), (2, .const (.int .i64 1)), (3, .const (.int .i64 3)), (4, .const (.int .i64 1)), (5, .const (.int .i64 1)), (6, t18), (7, .const (.int .i64 0))]), .n 20 (.call ⟨.value (.func 71), #[.const (.int .i64 3)], #[3]⟩), .n 21 (.build 57 #[(0, .const (.int .i64 17)), (1, .const (.string { data := #[99, 111, 110, 99, 97, 116] })), (2, .const (.int .i64 1)), (3, .const (.int .i64 3)), (4, .const (.int .i64 1)), (5, .const (.int .i64 8)), (6, t20), (7, .const (.int .i64 1))]), .n 22 (.build 57 #[(0, .const (.int .i64 18)), (1, .const (.string { data := #[115, 113, 117, 97, 114, 101] })), (2, .const (.int .i64 1)), (3, .const (.int .i64 1)), (4, .const (.int .i64 1)), (5, .const (.int .i64 1)), (6, .func 70), (7, .const (.int .i64 0))]), .n 23 (.build 57 #[(0, .const (.int .i64 19)), (1, .const (.string { data := #[103, 101, 109, 109] })), (2, .const (.int .i64 1)), (3, .const (.int .i64 2)), (4, .const (.int .i64 3)), (5, .const (.int .i64 3)), (6, .func 70), (7, .const (.int .i64 0))]), .n 24 (.build 57 #[(0, .const (.int .i64 20)), (1, .const (.string { data := #[109, 101, 97, 110] })), (2, .const (.int .i64 1)), (3, .const (.int .i64 2)), (4, .const (.int .i64 1)), (5, .const (.int .i64 1)), (6, .func 75), (7, .const (.int .i64 2))]), .n 25 (.buildSlice 91 20 #[(0, t1), (1, t2), (2, t3), (3, t4), (4, t5), (5, t7), (6, t8), (7, t9), (8, t10), (9, t11), (10, t12), (11, t13), (12, t14), (13, t15), (14, t17), (15, t19), (16, t21), (17, t22), (18, t23), (19, t24)]), .n 0 (.assign t25)]) .r)) := by kernel_rfl
/-! slices.IndexFunc[[]fluxion/op.row,fluxion/op.row] -/
theorem w67 : Try.f67.body.map (absT C) = some (.q (.R [.n 4 (.assign (.const (.int .i64 0)))]) (.q (.q (.R [.n 6 (.move t0), .n 7 (.call ⟨.builtin .len, #[t6], #[91]⟩), .n 8 (.move (.const (.int .i64 0)))]) (.b 0 (.l (.q (.R [.n 9 (.binOp .lss 3 t8 t7 3)]) (.q (.c t9 .s (.x 0)) (.q (.b 1 (.q (.R [.n 10 (.move t8), .n 5 (.assign t10)]) (.q (.R [.n 11 (.move t1), .n 12 (.move t0), .n 13 (.move t5), .n 14 (.indexAddr 91 t12 t13), .n 15 (.load 57 t14), .n 16 (.call ⟨.value t11, #[t15], #[57]⟩)]) (.c t16 (.q (.R [.n 17 (.move t5), .n 4 (.assign t17)]) .r) .s)))) (.R [.n 18 (.binOp .add 3 t8 (.const (.int .i64 1)) 3), .n 8 (.move t18)]))))))) (.q (.R [.n 4 (.assign (.const (.int .i64 (-1))))]) .r))) := by kernel_rfl
/-! fluxion/op.find -/
theorem w56 : Try.f56.body.map (absT C) = some (.q (.R [.n 2 (.alloc 57), .n 3 (.assign (.const (.bool false)))]) (.q (.R [.n 6 (.call ⟨.value (.func 66), #[], #[]⟩), .n 4 (.assign t6)]) (.q (.R [.n 7 (.move t4), .n 8 (.move t0), .n 9 (.call ⟨.value (.func 67), #[t7, t8], #[91, 81]⟩), .n 5 (.assign t9)]) (.q (.q (.R [.n 10 (.move t5), .n 11 (.binOp .lss 3 t10 (.const (.int .i64 0)) 3)]) (.c t11 (.q (.R [.n 12 (.build 57 #[]), .z (.store 57 t2 t12), .n 3 (.assign (.const (.bool false)))]) .r) .s)) (.q (.R [.n 13 (.move t4), .n 14 (.move t5), .n 15 (.indexAddr 91 t13 t14), .n 16 (.load 57 t15), .z (.store 57 t2 t16), .n 3 (.assign (.const (.bool true)))]) .r))))) := by kernel_rfl
/-! fluxion/op.of -/
theorem w30 : Try.f30.body.map (absT C) = some (.q (.R [.n 1 (.box 22 t0), .n 2 (.alloc 57), .n 3 (.assign (.const (.bool false)))]) (.q (.R [.n 4 (.makeFunc (.func 57) #[] #[t1]), .n 5 (.call ⟨.value (.func 56), #[t4], #[81]⟩), .n 6 (.extract t5 0), .n 7 (.extract t5 1), .z (.store 57 t2 t6), .n 3 (.assign t7)]) .r)) := by kernel_rfl
/-! fluxion/op.of$1 -/
theorem w57 : Try.f57.body.map (absT C) = some (.q (.R [.n 2 (.box 57 t0), .n 3 (.assign (.const (.bool false)))]) (.q (.R [.n 4 (.fieldAddr 57 t2 0), .n 5 (.load 22 t4), .n 6 (.load 22 t1), .n 7 (.binOp .eql 22 t5 t6 22), .n 3 (.assign t7)]) .r)) := by kernel_rfl
/-! (fluxion/op.row).in -/
theorem w32 : Try.f32.body.map (absT C) = some (.q (.R [.n 2 (.box 57 t0), .n 4 (.assign (.const (.bool false)))]) (.q (.R [.n 5 (.move t1), .n 6 (.fieldAddr 57 t2 2), .n 7 (.load 3 t6), .n 8 (.binOp .geq 3 t5 t7 3), .n 9 (.move t8), .g (some 10) (.move t1) 9 true, .g (some 11) (.fieldAddr 57 t2 3) 9 true, .g (some 12) (.load 3 t11) 9 true, .g (some 13) (.binOp .leq 3 t10 t12 3) 9 true, .n 14 (.pick t9 t13 (.const (.bool false))), .n 4 (.assign t14)]) .r)) := by kernel_rfl
/-! slices.IndexFunc[[]int,int] -/
theorem w58 : Try.f58.body.map (absT C) = some (.q (.R [.n 4 (.assign (.const (.int .i64 0)))]) (.q (.q (.R [.n 6 (.move t0), .n 7 (.call ⟨.builtin .len, #[t6], #[23]⟩), .n 8 (.move (.const (.int .i64 0)))]) (.b 0 (.l (.q (.R [.n 9 (.binOp .lss 3 t8 t7 3)]) (.q (.c t9 .s (.x 0)) (.q (.b 1 (.q (.R [.n 10 (.move t8), .n 5 (.assign t10)]) (.q (.R [.n 11 (.move t1), .n 12 (.move t0), .n 13 (.move t5), .n 14 (.indexAddr 23 t12 t13), .n 15 (.load 3 t14), .n 16 (.call ⟨.value t11, #[t15], #[3]⟩)]) (.c t16 (.q (.R [.n 17 (.move t5), .n 4 (.assign t17)]) .r) .s)))) (.R [.n 18 (.binOp .add 3 t8 (.const (.int .i64 1)) 3), .n 8 (.move t18)]))))))) (.q (.R [.n 4 (.assign (.const (.int .i64 (-1))))]) .r))) := by kernel_rfl
/-! slices.ContainsFunc[[]int,int] -/
theorem w33 : Try.f33.body.map (absT C) = some (.q (.R [.n 4 (.assign (.const (.bool false)))]) (.q (.R [.n 5 (.move t0), .n 6 (.move t1), .n 7 (.call ⟨.value (.func 58), #[t5, t6], #[23, 60]⟩), .n 8 (.binOp .geq 3 t7 (.const (.int .i64 0)) 3), .n 4 (.assign t8)]) .r)) := by kernel_rfl
/-! fluxion/op.Check -/
theorem w22 : Try.f22.body.map (absT C) = some (.q (.R [.n 3 (.box 25 t1), .n 4 (.assign (.const (.int .i64 0)))]) (.q (.R [.n 9 (.fieldAddr 25 t3 0), .n 10 (.load 22 t9), .n 11 (.call ⟨.value (.func 30), #[t10], #[22]⟩), .n 8 (.move t11), .n 12 (.extract t8 0), .n 13 (.extract t8 1), .n 5 (.alloc 57), .z (.store 57 t5 t12), .n 6 (.assign t13)]) (.q (.R [.n 7 (.assign (.func 31))]) (.q (.b 0 (.q (.R [.n 15 (.move t0), .n 16 (.binOp .lss 3 t15 (.const (.int .i64 1)) 3), .n 17 (.move t16), .g (some 18) (.move t0) 17 false, .g (some 19) (.binOp .gtr 3 t18 (.const (.int .i64 3)) 3) 17 false, .n 20 (.pick t17 (.const (.bool true)) t19), .n 14 (.assign t20)]) (.c t14 (.q (.R [.n 4 (.assign (.const (.int .i64 8)))]) .r) (.q (.R [.n 22 (.move t6), .n 23 (.unOp .not 4 t22), .n 24 (.move t23), .g (some 25) (.load 57 t5) 24 false, .g (some 26) (.move t0) 24 false, .g (some 27) (.call ⟨.value (.func 32), #[t25, t26], #[57, 3]⟩) 24 false, .g (some 28) (.unOp .not 4 t27) 24 false, .n 29 (.pick t24 (.const (.bool true)) t28), .n 21 (.assign t29)]) (.c t21 (.q (.R [.n 4 (.assign (.const (.int .i64 9)))]) .r) (.q (.R [.n 31 (.fieldAddr 25 t3 1), .n 32 (.load 23 t31), .n 33 (.call ⟨.builtin .len, #[t32], #[23]⟩), .n 34 (.fieldAddr 57 t5 4), .n 35 (.load 3 t34), .n 36 (.binOp .lss 3 t33 t35 3), .n 37 (.move t36), .g (some 38) (.fieldAddr 25 t3 1) 37 false, .g (some 39) (.load 23 t38) 37 false, .g (some 40) (.call ⟨.builtin .len, #[t39], #[23]⟩) 37 false, .g (some 41) (.fieldAddr 57 t5 5) 37 false, .g (some 42) (.load 3 t41) 37 false, .g (some 43) (.binOp .gtr 3 t40 t42 3) 37 false, .n 44 (.pick t37 (.const (.bool true)) t43), .n 30 (.assign t44)]) (.c t30 (.q (.R [.n 4 (.assign (.const (.int .i64 10)))]) .r) (.q (.R [.n 46 (.fieldAddr 25 t3 2), .n 47 (.load 23 t46), .n 48 (.call ⟨.builtin .len, #[t47], #[23]⟩), .n 49 (.binOp .eql 3 t48 (.const (.int .i64 0)) 3), .n 50 (.move t49), .g (some 51) (.move t0) 50 true, .g (some 52) (.fieldAddr 57 t5 7) 50 true, .g (some 53) (.load 3 t52) 50 true, .g (some 54) (.binOp .leq 3 t51 t53 3) 50 true, .n 55 (.pick t50 t54 (.const (.bool false))), .n 45 (.assign t55)]) (.c t45 (.q (.R [.n 4 (.assign (.const (.int .i64 0)))]) .r) (.q (.R [.n 57 (.fieldAddr 25 t3 2), .n 58 (.load 23 t57), .n 59 (.move t7), .n 60 (.call ⟨.value (.func 33), #[t58, t59], #[23, 60]⟩), .n 61 (.move t60), .g (some 62) (.fieldAddr 57 t5 6) 61 false, .g (some 63) (.load 55 t62) 61 false, .g (some 64) (.fieldAddr 25 t3 2) 61 false, .g (some 65) (.load 23 t64) 61 false, .g (some 66) (.call ⟨.value t63, #[t65], #[23]⟩) 61 false, .g (some 67) (.unOp .not 4 t66) 61 false, .n 68 (.pick t61 (.const (.bool true)) t67), .n 56 (.assign t68)]) (.c t56 (.q (.R [.n 4 (.assign (.const (.int .i64 11)))]) .r) .s))))))))))) (.q (.R [.n 4 (.assign (.const (.int .i64 0)))]) .r))))) := by kernel_rfl
/-! fluxion/op.Check$1 -/
theorem w31 : Try.f31.body.map (absT C) = some (.q (.R [.n 2 (.assign (.const (.bool false)))]) (.q (.R [.n 3 (.move t0), .n 4 (.binOp .gtr 3 t3 (.const (.int .i64 2147483647)) 3), .n 5 (.move t4), .g (some 6) (.move t0) 5 false, .g (some 7) (.binOp .lss 3 t6 (.const (.int .i64 (-2147483647))) 3) 5 false, .n 8 (.pick t5 (.const (.bool true)) t7), .n 2 (.assign t8)]) .r)) := by kernel_rfl
/-! fluxion/op.Explicit -/
theorem w25 : Try.f25.body.map (absT C) = some (.q (.R [.n 4 (.box 25 t1), .n 6 (.assign (.const (.slice none 0 0)))]) (.q (.R [.n 12 (.fieldAddr 25 t4 2), .n 13 (.load 23 t12), .n 14 (.call ⟨.value (.func 36), #[t13], #[23]⟩), .n 7 (.assign t14)]) (.q (.R [.n 16 (.fieldAddr 25 t4 0), .n 17 (.load 22 t16), .n 18 (.call ⟨.value (.func 30), #[t17], #[22]⟩), .n 15 (.move t18), .n 19 (.extract t15 0), .n 20 (.extract t15 1), .n 8 (.alloc 57), .z (.store 57 t8 t19), .n 9 (.assign t20)]) (.q (.q (.R [.n 21 (.move t0), .n 22 (.load 25 t4), .n 23 (.call ⟨.value (.func 22), #[t21, t22], #[3, 25]⟩), .n 24 (.binOp .neq 29 t23 (.const (.int .i64 0)) 29), .n 25 (.move t24), .g (some 26) (.move t7) 25 false, .g (some 27) (.call ⟨.builtin .len, #[t26], #[23]⟩) 25 false, .g (some 28) (.binOp .gtr 3 t27 (.const (.int .i64 0)) 3) 25 false, .n 29 (.pick t25 (.const (.bool true)) t28), .n 30 (.move t29), .g (some 31) (.move t0) 30 false, .g (some 32) (.fieldAddr 57 t8 7) 30 false, .g (some 33) (.load 3 t32) 30 false, .g (some 34) (.binOp .gtr 3 t31 t33 3) 30 false, .n 35 (.pick t30 (.const (.bool true)) t34)]) (.c t35 (.q (.R [.n 36 (.move t7), .n 6 (.assign t36)]) .r) .s)) (.q (.R [.n 10 (.assign (.const (.int .i64 0)))]) (.q (.q (.R [.n 37 (.move t2), .n 38 (.call ⟨.builtin .len, #[t37], #[23]⟩), .n 39 (.binOp .gtr 3 t38 (.const (.int .i64 0)) 3), .n 40 (.move t39), .g (some 41) (.move t2) 40 true, .g (some 42) (.indexAddr 23 t41 (.const (.int .i64 0))) 40 true, .g (some 43) (.load 3 t42) 40 true, .g (some 44) (.binOp .geq 3 t43 (.const (.int .i64 0)) 3) 40 true, .n 45 (.pick t40 t44 (.const (.bool false))), .n 46 (.move t45), .g (some 47) (.move t2) 46 true, .g (some 48) (.indexAddr 23 t47 (.const (.int .i64 0))) 46 true, .g (some 49) (.load 3 t48) 46 true, .g (some 50) (.binOp .leq 3 t49 (.const (.int .i64 4)) 3) 46 true, .n 51 (.pick t46 t50 (.const (.bool false)))]) (.c t51 (.R [.n 52 (.move t2), .n 53 (.indexAddr 23 t52 (.const (.int .i64 0))), .n 54 (.load 3 t53), .n 10 (.assign t54)]) .s)) (.q (.q (.R [.n 55 (.fieldAddr 25 t4 0), .n 56 (.load 22 t55)]) (.b 0 (.q (.R [.n 67 (.binOp .eql 22 t56 (.const (.int .i64 6)) 22), .n 66 (.assign t67)]) (.c t66 (.R [.n 68 (.move t7), .n 69 (.buildSlice 23 1 #[(0, .const (.int .i64 2))]), .n 70 (.call ⟨.builtin .append, #[t68, t69], #[23, 23]⟩), .n 7 (.assign t70)]) (.q (.R [.n 72 (.binOp .eql 22 t56 (.const (.int .i64 17)) 22), .n 71 (.assign t72)]) (.c t71 (.R [.n 73 (.move t7), .n 74 (.buildSlice 23 1 #[(0, .const (.int .i64 0))]), .n 75 (.call ⟨.builtin .append, #[t73, t74], #[23, 23]⟩), .n 7 (.assign t75)]) (.q (.R [.n 57 (.move t10), .n 58 (.move (.const (.int .i64 0)))]) (.b 1 (.l (.q (.R [.n 59 (.binOp .lss 3 t58 t57 3)]) (.q (.c t59 .s (.x 1)) (.q (.b 2 (.q (.R [.n 60 (.move t58), .n 11 (.assign t60)]) (.R [.n 61 (.move t7), .n 62 (.move t11), .n 63 (.buildSlice 23 1 #[(0, t62)]), .n 64 (.call ⟨.builtin .append, #[t61, t63], #[23, 23]⟩), .n 7 (.assign t64)]))) (.R [.n 65 (.binOp .add 3 t58 (.const (.int .i64 1)) 3), .n 58 (.move t65)]))))))))))))) (.q (.q (.R [.n 76 (.fieldAddr 25 t4 0), .n 77 (.load 22 t76), .n 78 (.binOp .eql 22 t77 (.const (.int .i64 11)) 22)]) (.c t78 (.R [.n 79 (.move t7), .n 80 (.call ⟨.value (.func 48), #[t79], #[23]⟩)]) .s)) (.q (.R [.n 81 (.move t7), .n 6 (.assign t81)]) .r))))))))) := by kernel_rfl
/-! slices.Reverse[[]int,int] -/
theorem w48 : Try.f48.body.map (absT C) = some (.q (.R [.n 4 (.move t0), .n 5 (.call ⟨.builtin .len, #[t4], #[23]⟩), .n 6 (.binOp .sub 3 t5 (.const (.int .i64 1)) 3), .n 2 (.assign (.const (.int .i64 0))), .n 3 (.assign t6)]) (.b 0 (.l (.q (.q (.R [.n 7 (.move t2), .n 8 (.move t3), .n 9 (.binOp .lss 3 t7 t8 3)]) (.c t9 .s (.x 0))) (.q (.b 1 (.D true [.n 14 (.move t0), .n 15 (.move t2), .n 16 (.move t0), .n 17 (.move t3), .n 18 (.move t0), .n 19 (.move t3), .n 20 (.indexAddr 23 t18 t19), .n 21 (.load 3 t20), .n 22 (.move t0), .n 23 (.move t2), .n 24 (.indexAddr 23 t22 t23), .n 25 (.load 3 t24), .n 26 (.indexAddr 23 t14 t15), .z (.store 3 t26 t21), .n 27 (.indexAddr 23 t16 t17), .z (.store 3 t27 t25)])) (.R [.n 10 (.move t2), .n 11 (.binOp .add 3 t10 (.const (.int .i64 1)) 3), .n 12 (.move t3), .n 13 (.binOp .sub 3 t12 (.const (.int .i64 1)) 3), .n 2 (.assign t11), .n 3 (.assign t13)])))))) := by kernel_rfl
/-! fluxion/op.turned -/
theorem w73 : Try.f73.body.map (absT C) = some (.q (.R [.n 2 (.assign (.const (.bool false)))]) (.q (.R [.n 3 (.move t0), .n 4 (.call ⟨.builtin .len, #[t3], #[23]⟩), .n 5 (.binOp .leq 3 t4 (.const (.int .i64 4)) 3), .n 6 (.move t5), .g (some 7) (.move t0) 6 true, .g (some 8) (.move t0) 6 true, .g (some 9) (.call ⟨.builtin .len, #[t8], #[23]⟩) 6 true, .g (some 10) (.call ⟨.value (.func 81), #[t7, t9], #[23, 3]⟩) 6 true, .g (some 11) (.binOp .eql 29 t10 (.const (.int .i64 0)) 29) 6 true, .n 12 (.pick t6 t11 (.const (.bool false))), .n 2 (.assign t12)]) .r)) := by kernel_rfl
end Go.Proofs.Ytlomgfdepllanaa
end

section
set_option maxRecDepth 100000
namespace Go.Proofs.Ytlomgfdepllanaa
open Go Go.Bv
/-! fluxion/shape.Perm -/
theorem w81 : Try.f81.body.map (absT C) = some (.q (.R [.n 4 (.assign (.const (.int .i64 0)))]) (.q (.R [.n 8 (.move t0), .n 9 (.call ⟨.value (.func 84), #[t8], #[23]⟩), .n 10 (.call ⟨.value (.func 83), #[t9], #[98]⟩), .n 5 (.assign t10)]) (.q (.q (.R [.n 11 (.move t5), .n 12 (.call ⟨.builtin .len, #[t11], #[23]⟩), .n 13 (.move (.const (.int .i64 0)))]) (.b 0 (.l (.q (.R [.n 14 (.binOp .lss 3 t13 t12 3)]) (.q (.c t14 .s (.x 0)) (.q (.b 1 (.q (.R [.n 15 (.move t13), .n 16 (.indexAddr 23 t11 t13), .n 17 (.load 3 t16), .n 6 (.assign t15), .n 7 (.assign t17)]) (.q (.R [.n 18 (.move t7), .n 19 (.move t6), .n 20 (.binOp .neq 3 t18 t19 3)]) (.c t20 (.q (.R [.n 4 (.assign (.const (.int .i64 11)))]) .r) .s)))) (.R [.n 21 (.binOp .add 3 t13 (.const (.int .i64 1)) 3), .n 13 (.move t21)]))))))) (.q (.q (.R [.n 22 (.move t5), .n 23 (.call ⟨.builtin .len, #[t22], #[23]⟩), .n 24 (.move t1), .n 25 (.call ⟨.builtin .max, #[t24, .const (.int .i64 0)], #[3, 3]⟩), .n 26 (.binOp .neq 3 t23 t25 3)]) (.c t26 (.q (.R [.n 4 (.assign (.const (.int .i64 11)))]) .r) .s)) (.q (.R [.n 4 (.assign (.const (.int .i64 0)))]) .r))))) := by kernel_rfl
/-! slices.Values[[]int,int] -/
theorem w84 : Try.f84.body.map (absT C) = some (.q (.R [.n 1 (.box 23 t0), .n 2 (.assign (.const .nilFunc))]) (.q (.R [.n 3 (.makeFunc (.func 87) #[] #[t1]), .n 2 (.assign t3)]) .r)) := by kernel_rfl
/-! slices.Values[[]int,int]$1 -/
theorem w87 : Try.f87.body.map (absT C) = some (.q (.R [.n 5 (.load 23 t1), .n 6 (.call ⟨.builtin .len, #[t5], #[23]⟩), .n 7 (.move (.const (.int .i64 0)))]) (.b 0 (.l (.q (.R [.n 8 (.binOp .lss 3 t7 t6 3)]) (.q (.c t8 .s (.x 0)) (.q (.b 1 (.q (.R [.n 9 (.indexAddr 23 t5 t7), .n 10 (.load 3 t9), .n 4 (.assign t10)]) (.q (.R [.n 11 (.move t0), .n 12 (.move t4), .n 13 (.call ⟨.value t11, #[t12], #[3]⟩), .n 14 (.unOp .not 4 t13)]) (.c t14 .r .s)))) (.R [.n 15 (.binOp .add 3 t7 (.const (.int .i64 1)) 3), .n 7 (.move t15)]))))))) := by kernel_rfl
/-! slices.Sorted[int] -/
theorem w83 : Try.f83.body.map (absT C) = some (.q (.R [.n 2 (.assign (.const (.slice none 0 0)))]) (.q (.R [.n 4 (.move t0), .n 5 (.call ⟨.value (.func 85), #[t4], #[98]⟩), .n 3 (.assign t5)]) (.q (.R [.n 6 (.move t3), .n 7 (.call ⟨.value (.func 86), #[t6], #[23]⟩)]) (.q (.R [.n 8 (.move t3), .n 2 (.assign t8)]) .r)))) := by kernel_rfl
/-! slices.Collect[int] -/
theorem w85 : Try.f85.body.map (absT C) = some (.q (.R [.n 2 (.assign (.const (.slice none 0 0)))]) (.q (.R [.n 3 (.move t0), .n 4 (.call ⟨.value (.func 88), #[.const (.slice none 0 0), t3], #[23, 98]⟩), .n 2 (.assign t4)]) .r)) := by kernel_rfl
/-! slices.AppendSeq[[]int,int] -/
theorem w88 : Try.f88.body.map (absT C) = some (.q (.R [.n 2 (.box 23 t0), .n 4 (.assign (.const (.slice none 0 0)))]) (.q (.q (.R [.n 6 (.move t1)]) (.b 0 (.f t6 #[7] (.R [.n 5 (.assign t7)]) (.b 1 (.R [.n 8 (.load 23 t2), .n 9 (.move t5), .n 10 (.buildSlice 23 1 #[(0, t9)]), .n 11 (.call ⟨.builtin .append, #[t8, t10], #[23, 23]⟩), .z (.store 23 t2 t11)]))))) (.q (.R [.n 12 (.load 23 t2), .n 4 (.assign t12)]) .r))) := by kernel_rfl
/-! slices.Sort[[]int,int] -/
theorem w86 : Try.f86.body.map (absT C) = some (.q (.R [.n 3 (.move t0), .n 4 (.call ⟨.builtin .len, #[t3], #[23]⟩), .n 2 (.assign t4)]) (.R [.n 5 (.move t0), .n 6 (.move t2), .n 7 (.move t2), .n 8 (.convert 3 103 t7), .n 9 (.call ⟨.value (.func 90), #[t8], #[103]⟩), .n 10 (.call ⟨.value (.func 89), #[t5, .const (.int .i64 0), t6, t9], #[23, 3, 3, 3]⟩)])) := by kernel_rfl
/-! slices.pdqsortOrdered[int] -/
theorem w89 : Try.f89.body.map (absT C) = some (.q (.R [.n 8 (.assign (.const (.bool true)))]) (.q (.R [.n 9 (.assign (.const (.bool true)))]) (.b 0 (.l (.b 1 (.q (.R [.n 19 (.move t2), .n 20 (.move t1), .n 21 (.binOp .sub 3 t19 t20 3), .n 10 (.assign t21)]) (.q (.q (.R [.n 22 (.move t10), .n 23 (.binOp .leq 3 t22 (.const (.int .i64 12)) 3)]) (.c t23 (.q (.R [.n 24 (.move t0), .n 25 (.move t1), .n 26 (.move t2), .n 27 (.call ⟨.value (.func 91), #[t24, t25, t26], #[23, 3, 3]⟩)]) .r) .s)) (.q (.q (.R [.n 28 (.move t3), .n 29 (.binOp .eql 3 t28 (.const (.int .i64 0)) 3)]) (.c t29 (.q (.R [.n 30 (.move t0), .n 31 (.move t1), .n 32 (.move t2), .n 33 (.call ⟨.value (.func 92), #[t30, t31, t32], #[23, 3, 3]⟩)]) .r) .s)) (.q (.q (.R [.n 34 (.move t8), .n 35 (.unOp .not 4 t34)]) (.c t35 (.q (.R [.n 36 (.move t0), .n 37 (.move t1), .n 38 (.move t2), .n 39 (.call ⟨.value (.func 93), #[t36, t37, t38], #[23, 3, 3]⟩)]) (.R [.n 40 (.move t3), .n 41 (.binOp .sub 3 t40 (.const (.int .i64 1)) 3), .n 3 (.assign t41)])) .s)) (.q (.R [.n 43 (.move t0), .n 44 (.move t1), .n 45 (.move t2), .n 46 (.call ⟨.value (.func 94), #[t43, t44, t45], #[23, 3, 3]⟩), .n 42 (.move t46), .n 47 (.extract t42 0), .n 48 (.extract t42 1), .n 11 (.assign t47), .n 12 (.assign t48)]) (.q (.q (.R [.n 49 (.move t12), .n 50 (.binOp .eql 105 t49 (.const (.int .i64 2)) 105)]) (.c t50 (.q (.R [.n 51 (.move t0), .n 52 (.move t1), .n 53 (.move t2), .n 54 (.call ⟨.value (.func 95), #[t51, t52, t53], #[23, 3, 3]⟩)]) (.q (.R [.n 55 (.move t2), .n 56 (.binOp .sub 3 t55 (.const (.int .i64 1)) 3), .n 57 (.move t11), .n 58 (.move t1), .n 59 (.binOp .sub 3 t57 t58 3), .n 60 (.binOp .sub 3 t56 t59 3), .n 11 (.assign t60)]) (.R [.n 12 (.assign (.const (.int .i64 1)))]))) .s)) (.q (.q (.R [.n 61 (.move t8), .n 62 (.move t61), .g (some 63) (.move t9) 62 true, .n 64 (.pick t62 t63 (.const (.bool false))), .n 65 (.move t64), .g (some 66) (.move t12) 65 true, .g (some 67) (.binOp .eql 105 t66 (.const (.int .i64 1)) 105) 65 true, .n 68 (.pick t65 t67 (.const (.bool false)))]) (.c t68 (.q (.R [.n 69 (.move t0), .n 70 (.move t1), .n 71 (.move t2), .n 72 (.call ⟨.value (.func 96), #[t69, t70, t71], #[23, 3, 3]⟩)]) (.c t72 .r .s)) .s)) (.q (.q (.D true [.n 73 (.move t1), .n 74 (.binOp .gtr 3 t73 (.const (.int .i64 0)) 3), .n 75 (.move t74), .g (some 76) (.move t0) 75 true, .g (some 77) (.move t1) 75 true, .g (some 78) (.binOp .sub 3 t77 (.const (.int .i64 1)) 3) 75 true, .g (some 79) (.indexAddr 23 t76 t78) 75 true, .g (some 80) (.load 3 t79) 75 true, .g (some 81) (.move t0) 75 true, .g (some 82) (.move t11) 75 true, .g (some 83) (.indexAddr 23 t81 t82) 75 true, .g (some 84) (.load 3 t83) 75 true, .g (some 85) (.call ⟨.value (.func 97), #[t80, t84], #[3, 3]⟩) 75 true, .g (some 86) (.unOp .not 4 t85) 75 true, .n 87 (.pick t75 t86 (.const (.bool false)))]) (.c t87 (.q (.R [.n 88 (.move t0), .n 89 (.move t1), .n 90 (.move t2), .n 91 (.move t11), .n 92 (.call ⟨.value (.func 98), #[t88, t89, t90, t91], #[23, 3, 3, 3]⟩), .n 13 (.assign t92)]) (.q (.R [.n 93 (.move t13), .n 1 (.assign t93)]) (.x 1))) .s)) (.q (.R [.n 95 (.move t0), .n 96 (.move t1), .n 97 (.move t2), .n 98 (.move t11), .n 99 (.call ⟨.value (.func 99), #[t95, t96, t97, t98], #[23, 3, 3, 3]⟩), .n 94 (.move t99), .n 100 (.extract t94 0), .n 101 (.extract t94 1), .n 14 (.assign t100), .n 15 (.assign t101)]) (.q (.R [.n 102 (.move t15), .n 9 (.assign t102)]) (.q (.R [.n 103 (.move t14), .n 104 (.move t1), .n 105 (.binOp .sub 3 t103 t104 3), .n 106 (.move t2), .n 107 (.move t14), .n 108 (.binOp .sub 3 t106 t107 3), .n 16 (.assign t105), .n 17 (.assign t108)]) (.q (.R [.n 109 (.move t10), .n 110 (.binOp .quo 3 t109 (.const (.int .i64 8)) 3), .n 18 (.assign t110)]) (.q (.R [.n 111 (.move t16), .n 112 (.move t17), .n 113 (.binOp .lss 3 t111 t112 3)]) (.c t113 (.q (.R [.n 114 (.move t16), .n 115 (.move t18), .n 116 (.binOp .geq 3 t114 t115 3), .n 8 (.assign t116)]) (.q (.R [.n 117 (.move t0), .n 118 (.move t1), .n 119 (.move t14), .n 120 (.move t3), .n 121 (.call ⟨.value (.func 89), #[t117, t118, t119, t120], #[23, 3, 3, 3]⟩)]) (.R [.n 122 (.move t14), .n 123 (.binOp .add 3 t122 (.const (.int .i64 1)) 3), .n 1 (.assign t123)]))) (.q (.R [.n 124 (.move t17), .n 125 (.move t18), .n 126 (.binOp .geq 3 t124 t125 3), .n 8 (.assign t126)]) (.q (.R [.n 127 (.move t0), .n 128 (.move t14), .n 129 (.binOp .add 3 t128 (.const (.int .i64 1)) 3), .n 130 (.move t2), .n 131 (.move t3), .n 132 (.call ⟨.value (.func 89), #[t127, t129, t130, t131], #[23, 3, 3, 3]⟩)]) (.R [.n 133 (.move t14), .n 2 (.assign t133)])))))))))))))))))))))) := by kernel_rfl
/-! slices.insertionSortOrdered[int] -/
theorem w91 : Try.f91.body.map (absT C) = some (.q (.R [.n 8 (.move t1), .n 9 (.binOp .add 3 t8 (.const (.int .i64 1)) 3), .n 6 (.assign t9)]) (.b 0 (.l (.q (.q (.R [.n 10 (.move t6), .n 11 (.move t2), .n 12 (.binOp .lss 3 t10 t11 3)]) (.c t12 .s (.x 0))) (.q (.b 1 (.q (.R [.n 15 (.move t6), .n 7 (.assign t15)]) (.b 2 (.l (.q (.q (.D true [.n 16 (.move t7), .n 17 (.move t1), .n 18 (.binOp .gtr 3 t16 t17 3), .n 19 (.move t18), .g (some 20) (.move t0) 19 true, .g (some 21) (.move t7) 19 true, .g (some 22) (.indexAddr 23 t20 t21) 19 true, .g (some 23) (.load 3 t22) 19 true, .g (some 24) (.move t0) 19 true, .g (some 25) (.move t7) 19 true, .g (some 26) (.binOp .sub 3 t25 (.const (.int .i64 1)) 3) 19 true, .g (some 27) (.indexAddr 23 t24 t26) 19 true, .g (some 28) (.load 3 t27) 19 true, .g (some 29) (.call ⟨.value (.func 97), #[t23, t28], #[3, 3]⟩) 19 true, .n 30 (.pick t19 t29 (.const (.bool false)))]) (.c t30 .s (.x 2))) (.q (.b 3 (.D true [.n 33 (.move t0), .n 34 (.move t7), .n 35 (.move t0), .n 36 (.move t7), .n 37 (.binOp .sub 3 t36 (.const (.int .i64 1)) 3), .n 38 (.move t0), .n 39 (.move t7), .n 40 (.binOp .sub 3 t39 (.const (.int .i64 1)) 3), .n 41 (.indexAddr 23 t38 t40), .n 42 (.load 3 t41), .n 43 (.move t0), .n 44 (.move t7), .n 45 (.indexAddr 23 t43 t44), .n 46 (.load 3 t45), .n 47 (.indexAddr 23 t33 t34), .z (.store 3 t47 t42), .n 48 (.indexAddr 23 t35 t37), .z (.store 3 t48 t46)])) (.R [.n 31 (.move t7), .n 32 (.binOp .sub 3 t31 (.const (.int .i64 1)) 3), .n 7 (.assign t32)]))))))) (.R [.n 13 (.move t6), .n 14 (.binOp .add 3 t13 (.const (.int .i64 1)) 3), .n 6 (.assign t14)])))))) := by kernel_rfl
/-! cmp.Less[int] -/
theorem w97 : Try.f97.body.map (absT C) = some (.q (.R [.n 4 (.assign (.const (.bool false)))]) (.q (.R [.n 5 (.move t0), .n 6 (.call ⟨.value (.func 107), #[t5], #[3]⟩), .n 7 (.move t6), .g (some 8) (.move t1) 7 true, .g (some 9) (.call ⟨.value (.func 107), #[t8], #[3]⟩) 7 true, .g (some 10) (.unOp .not 4 t9) 7 true, .n 11 (.pick t7 t10 (.const (.bool false))), .n 12 (.move t11), .g (some 13) (.move t0) 12 false, .g (some 14) (.move t1) 12 false, .g (some 15) (.binOp .lss 3 t13 t14 3) 12 false, .n 16 (.pick t12 (.const (.bool true)) t15), .n 4 (.assign t16)]) .r)) := by kernel_rfl
/-! cmp.isNaN[int] -/
theorem w107 : Try.f107.body.map (absT C) = some (.q (.R [.n 2 (.assign (.const (.bool false)))]) (.q (.R [.n 3 (.move t0), .n 4 (.move t0), .n 5 (.binOp .neq 3 t3 t4 3), .n 2 (.assign t5)]) .r)) := by kernel_rfl
/-! math/bits.Len -/
theorem w90 : Try.f90.body.map (absT C) = some (.q (.R [.n 2 (.assign (.const (.int .i64 0)))]) (.q (.c (.const (.bool false)) (.q (.R [.n 3 (.move t0), .n 4 (.convert 103 112 t3), .n 5 (.call ⟨.value (.func 100), #[t4], #[112]⟩), .n 2 (.assign t5)]) .r) .s) (.q (.R [.n 6 (.move t0), .n 7 (.call ⟨.value (.func 101), #[t6], #[114]⟩), .n 2 (.assign t7)]) .r))) := by kernel_rfl
/-! math/bits.Len64 -/
theorem w101 : Try.f101.body.map (absT C) = some (.q (.R [.n 2 (.assign (.const (.int .i64 0)))]) (.q (.q (.R [.n 3 (.move t0), .n 4 (.binOp .geq 114 t3 (.const (.int .u64 4294967296)) 114)]) (.c t4 (.q (.R [.n 5 (.move t0), .n 6 (.binOp .shr 114 t5 (.const (.int .u64 32)) 103), .n 0 (.assign t6)]) (.R [.n 2 (.assign (.const (.int .i64 32)))])) .s)) (.q (.q (.R [.n 7 (.move t0), .n 8 (.binOp .geq 114 t7 (.const (.int .u64 65536)) 114)]) (.c t8 (.q (.R [.n 9 (.move t0), .n 10 (.binOp .shr 114 t9 (.const (.int .u64 16)) 103), .n 0 (.assign t10)]) (.R [.n 11 (.move t2), .n 12 (.binOp .add 3 t11 (.const (.int .i64 16)) 3), .n 2 (.assign t12)])) .s)) (.q (.q (.R [.n 13 (.move t0), .n 14 (.binOp .geq 114 t13 (.const (.int .u64 256)) 114)]) (.c t14 (.q (.R [.n 15 (.move t0), .n 16 (.binOp .shr 114 t15 (.const (.int .u64 8)) 103), .n 0 (.assign t16)]) (.R [.n 17 (.move t2), .n 18 (.binOp .add 3 t17 (.const (.int .i64 8)) 3), .n 2 (.assign t18)])) .s)) (.q (.R [.n 19 (.move t2), .n 20 (.move t0), .n 21 (.convert 114 5 t20), .n 22 (.index 9 (.const (.string { data := (([0, 1, 2, 2, 3, 3, 3, 3, 4, 4, 4, 4, 4, 4, 4, 4, 5, 5, 5, 5, 5, 5, 5, 5, 5, 5, 5, 5, 5, 5, 5, 5, 6, 6, 6, 6, 6, 6, 6, 6, 6, 6, 6, 6, 6, 6, 6, 6, 6, 6, 6, 6, 6, 6, 6, 6, 6, 6, 6, 6, 6, 6, 6, 6].append [7, 7, 7, 7, 7, 7, 7, 7, 7, 7, 7, 7, 7, 7, 7, 7, 7, 7, 7, 7, 7, 7, 7, 7, 7, 7, 7, 7, 7, 7, 7, 7, 7, 7, 7, 7, 7, 7, 7, 7, 7, 7, 7, 7, 7, 7, 7, 7, 7, 7, 7, 7, 7, 7, 7, 7, 7, 7, 7, 7, 7, 7, 7, 7]).append ([8, 8, 8, 8, 8, 8, 8, 8, 8, 8, 8, 8, 8, 8, 8, 8, 8, 8, 8, 8, 8, 8, 8, 8, 8, 8, 8, 8, 8, 8, 8, 8, 8, 8, 8, 8, 8, 8, 8, 8, 8, 8, 8, 8, 8, 8, 8, 8, 8, 8, 8, 8, 8, 8, 8, 8, 8, 8, 8, 8, 8, 8, 8, 8].append [8, 8, 8, 8, 8, 8, 8, 8, 8, 8, 8, 8, 8, 8, 8, 8, 8, 8, 8, 8, 8, 8, 8, 8, 8, 8, 8, 8, 8, 8, 8, 8, 8, 8, 8, 8, 8, 8, 8, 8, 8, 8, 8, 8, 8, 8, 8, 8, 8, 8, 8, 8, 8, 8, 8, 8, 8, 8, 8, 8, 8, 8, 8, 8])).toArray })) t21), .n 23 (.convert 5 3 t22), .n 24 (.binOp .add 3 t19 t23 3), .n 2 (.assign t24)]) .r))))) := by kernel_rfl
end Go.Proofs.Ytlomgfdepllanaa
end

section
set_option maxRecDepth 100000
namespace Go.Proofs.Ytlomgfdepllanaa
open Go Go.Bv
/-! fluxion/infer.limited -/
theorem w60 : Try.f60.body.map (absT C) = some (.q (.R [.n 2 (.assign (.const (.slice none 0 0))), .n 3 (.assign (.const (.int .i64 0)))]) (.q (.q (.R [.n 5 (.move t0), .n 6 (.call ⟨.value (.func 23), #[t5], #[28]⟩), .n 4 (.assign t6)]) (.q (.R [.n 7 (.move t4), .n 8 (.binOp .neq 29 t7 (.const (.int .i64 0)) 29)]) (.c t8 (.q (.R [.n 9 (.move t4), .n 2 (.assign (.const (.slice none 0 0))), .n 3 (.assign t9)]) .r) .s))) (.q (.R [.n 10 (.move t0), .n 2 (.assign t10), .n 3 (.assign (.const (.int .i64 0)))]) .r))) := by kernel_rfl
/-! fluxion/infer.matrix -/
theorem w39 : Try.f39.body.map (absT C) = some (.q (.R [.n 4 (.assign (.const (.slice none 0 0))), .n 5 (.assign (.const (.int .i64 0)))]) (.q (.q (.D true [.n 6 (.move t0), .n 7 (.call ⟨.builtin .len, #[t6], #[28]⟩), .n 8 (.binOp .neq 3 t7 (.const (.int .i64 2)) 3), .n 9 (.move t8), .g (some 10) (.move t1) 9 false, .g (some 11) (.call ⟨.builtin .len, #[t10], #[28]⟩) 9 false, .g (some 12) (.binOp .neq 3 t11 (.const (.int .i64 2)) 3) 9 false, .n 13 (.pick t9 (.const (.bool true)) t12), .n 14 (.move t13), .g (some 15) (.move t0) 14 false, .g (some 16) (.indexAddr 28 t15 (.const (.int .i64 1))) 14 false, .g (some 17) (.load 3 t16) 14 false, .g (some 18) (.move t1) 14 false, .g (some 19) (.indexAddr 28 t18 (.const (.int .i64 0))) 14 false, .g (some 20) (.load 3 t19) 14 false, .g (some 21) (.binOp .neq 3 t17 t20 3) 14 false, .n 22 (.pick t14 (.const (.bool true)) t21)]) (.c t22 (.q (.R [.n 4 (.assign (.const (.slice none 0 0))), .n 5 (.assign (.const (.int .i64 13)))]) .r) .s)) (.q (.D true [.n 23 (.move t0), .n 24 (.indexAddr 28 t23 (.const (.int .i64 0))), .n 25 (.load 3 t24), .n 26 (.move t1), .n 27 (.indexAddr 28 t26 (.const (.int .i64 1))), .n 28 (.load 3 t27), .n 29 (.buildSlice 28 2 #[(0, t25), (1, t28)]), .n 30 (.call ⟨.value (.func 60), #[t29], #[28]⟩), .n 31 (.extract t30 0), .n 32 (.extract t30 1), .n 4 (.assign t31), .n 5 (.assign t32)]) .r))) := by kernel_rfl
/-! fluxion/infer.turned -/
theorem w41 : Try.f41.body.map (absT C) = some (.q (.R [.n 4 (.assign (.const (.slice none 0 0))), .n 5 (.assign (.const (.int .i64 0)))]) (.q (.q (.R [.n 8 (.move t1), .n 9 (.call ⟨.builtin .len, #[t8], #[23]⟩), .n 10 (.move t0), .n 11 (.call ⟨.builtin .len, #[t10], #[28]⟩), .n 12 (.binOp .neq 3 t9 t11 3)]) (.c t12 (.q (.R [.n 4 (.assign (.const (.slice none 0 0))), .n 5 (.assign (.const (.int .i64 13)))]) .r) .s)) (.q (.q (.R [.n 13 (.move t1), .n 14 (.call ⟨.builtin .len, #[t13], #[23]⟩), .n 15 (.move (.const (.int .i64 0)))]) (.b 0 (.l (.q (.R [.n 16 (.binOp .lss 3 t15 t14 3)]) (.q (.c t16 .s (.x 0)) (.q (.b 1 (.q (.R [.n 17 (.indexAddr 23 t13 t15), .n 18 (.load 3 t17), .n 7 (.assign t18)]) (.R [.n 19 (.move t4), .n 20 (.move t0), .n 21 (.move t7), .n 22 (.indexAddr 28 t20 t21), .n 23 (.load 3 t22), .n 24 (.buildSlice 28 1 #[(0, t23)]), .n 25 (.call ⟨.builtin .append, #[t19, t24], #[28, 28]⟩), .n 4 (.assign t25)]))) (.R [.n 26 (.binOp .add 3 t15 (.const (.int .i64 1)) 3), .n 15 (.move t26)]))))))) (.q (.R [.n 27 (.move t4), .n 4 (.assign t27), .n 5 (.assign (.const (.int .i64 0)))]) .r)))) := by kernel_rfl
/-! fluxion/infer.pairs -/
theorem w63 : Try.f63.body.map (absT C) = some (.q (.R [.n 1 (.box 23 t0), .n 2 (.assign (.const .nilFunc))]) (.q (.R [.n 3 (.makeFunc (.func 69) #[] #[t1]), .n 2 (.assign t3)]) .r)) := by kernel_rfl
/-! fluxion/infer.pairs$1 -/
theorem w69 : Try.f69.body.map (absT C) = some (.q (.R [.n 3 (.assign (.const (.int .i64 0)))]) (.b 0 (.l (.q (.q (.R [.n 4 (.move t3), .n 5 (.binOp .add 3 t4 (.const (.int .i64 1)) 3), .n 6 (.load 23 t1), .n 7 (.call ⟨.builtin .len, #[t6], #[23]⟩), .n 8 (.binOp .lss 3 t5 t7 3)]) (.c t8 .s (.x 0))) (.q (.b 1 (.q (.D true [.n 11 (.move t0), .n 12 (.load 23 t1), .n 13 (.move t3), .n 14 (.indexAddr 23 t12 t13), .n 15 (.load 3 t14), .n 16 (.load 23 t1), .n 17 (.move t3), .n 18 (.binOp .add 3 t17 (.const (.int .i64 1)) 3), .n 19 (.indexAddr 23 t16 t18), .n 20 (.load 3 t19), .n 21 (.call ⟨.value t11, #[t15, t20], #[3, 3]⟩), .n 22 (.unOp .not 4 t21)]) (.c t22 .r .s))) (.R [.n 9 (.move t3), .n 10 (.binOp .add 3 t9 (.const (.int .i64 2)) 3), .n 3 (.assign t10)])))))) := by kernel_rfl
/-! fluxion/infer.spanned -/
theorem w44 : Try.f44.body.map (absT C) = some (.q (.R [.n 3 (.box 28 t0), .n 5 (.box 72 t2), .n 6 (.alloc 28), .n 7 (.alloc 29)]) (.q (.q (.R [.n 13 (.move t1), .n 14 (.call ⟨.builtin .len, #[t13], #[23]⟩), .n 15 (.load 28 t3), .n 16 (.call ⟨.builtin .len, #[t15], #[28]⟩), .n 17 (.binOp .mul 3 (.const (.int .i64 2)) t16 3), .n 18 (.binOp .neq 3 t14 t17 3)]) (.c t18 (.q (.R [.z (.store 28 t6 (.const (.slice none 0 0))), .z (.store 29 t7 (.const (.int .i64 13)))]) .r) .s)) (.q (.R [.n 19 (.buildSlice 28 0 #[]), .n 8 (.alloc 28), .z (.store 28 t8 t19)]) (.q (.q (.R [.n 20 (.move t1), .n 21 (.call ⟨.value (.func 63), #[t20], #[23]⟩)]) (.b 0 (.f t21 #[22, 23] (.q (.R [.n 9 (.assign t22)]) (.R [.n 10 (.assign t23)])) (.b 1 (.q (.D true [.n 25 (.load 72 t5), .n 26 (.load 28 t3), .n 27 (.load 28 t8), .n 28 (.call ⟨.builtin .len, #[t27], #[28]⟩), .n 29 (.indexAddr 28 t26 t28), .n 30 (.load 3 t29), .n 31 (.move t9), .n 32 (.move t10), .n 33 (.call ⟨.value t25, #[t30, t31, t32], #[3, 3, 3]⟩), .n 24 (.move t33), .n 34 (.extract t24 0), .n 35 (.extract t24 1), .n 11 (.assign t34), .n 12 (.assign t35)]) (.q (.q (.R [.n 36 (.move t12), .n 37 (.unOp .not 4 t36)]) (.c t37 (.q (.R [.z (.store 28 t6 (.const (.slice none 0 0))), .z (.store 29 t7 (.const (.int .i64 13)))]) .r) .s)) (.R [.n 38 (.load 28 t8), .n 39 (.move t11), .n 40 (.buildSlice 28 1 #[(0, t39)]), .n 41 (.call ⟨.builtin .append, #[t38, t40], #[28, 28]⟩), .z (.store 28 t8 t41)]))))))) (.q (.R [.n 42 (.load 28 t8), .n 43 (.call ⟨.value (.func 60), #[t42], #[28]⟩), .n 44 (.extract t43 0), .n 45 (.extract t43 1), .z (.store 28 t6 t44), .z (.store 29 t7 t45)]) .r))))) := by kernel_rfl
/-! fluxion/infer.joined -/
theorem w47 : Try.f47.body.map (absT C) = some (.q (.R [.n 4 (.assign (.const (.slice none 0 0))), .n 5 (.assign (.const (.int .i64 0)))]) (.q (.R [.n 10 (.move t1), .n 11 (.indexAddr 26 t10 (.const (.int .i64 0))), .n 12 (.load 28 t11), .n 6 (.assign t12)]) (.q (.q (.R [.n 13 (.move t0), .n 14 (.move t6), .n 15 (.call ⟨.builtin .len, #[t14], #[28]⟩), .n 16 (.binOp .geq 3 t13 t15 3)]) (.c t16 (.q (.R [.n 4 (.assign (.const (.slice none 0 0))), .n 5 (.assign (.const (.int .i64 13)))]) .r) .s)) (.q (.R [.n 17 (.move t6), .n 18 (.call ⟨.value (.func 35), #[t17], #[28]⟩), .n 7 (.assign t18)]) (.q (.q (.R [.n 19 (.move t1), .n 20 (.slice 26 t19 (some (.const (.int .i64 1))) none none), .n 21 (.call ⟨.builtin .len, #[t20], #[26]⟩), .n 22 (.move (.const (.int .i64 0)))]) (.b 0 (.l (.q (.R [.n 23 (.binOp .lss 3 t22 t21 3)]) (.q (.c t23 .s (.x 0)) (.q (.b 1 (.q (.R [.n 24 (.indexAddr 26 t20 t22), .n 25 (.load 28 t24), .n 9 (.assign t25)]) (.q (.q (.R [.n 26 (.move t9), .n 27 (.call ⟨.builtin .len, #[t26], #[28]⟩), .n 28 (.move t6), .n 29 (.call ⟨.builtin .len, #[t28], #[28]⟩), .n 30 (.binOp .neq 3 t27 t29 3), .n 31 (.move t30), .g (some 32) (.move t9) 31 false, .g (some 33) (.move t0) 31 false, .g (some 34) (.buildSlice 23 1 #[(0, t33)]) 31 false, .g (some 35) (.call ⟨.value (.func 43), #[t32, t34], #[28, 23]⟩) 31 false, .g (some 36) (.move t6) 31 false, .g (some 37) (.move t0) 31 false, .g (some 38) (.buildSlice 23 1 #[(0, t37)]) 31 false, .g (some 39) (.call ⟨.value (.func 43), #[t36, t38], #[28, 23]⟩) 31 false, .g (some 40) (.call ⟨.value (.func 38), #[t35, t39], #[28, 28]⟩) 31 false, .g (some 41) (.unOp .not 4 t40) 31 false, .n 42 (.pick t31 (.const (.bool true)) t41)]) (.c t42 (.q (.R [.n 4 (.assign (.const (.slice none 0 0))), .n 5 (.assign (.const (.int .i64 13)))]) .r) .s)) (.D true [.n 43 (.move t7), .n 44 (.move t0), .n 45 (.indexAddr 28 t43 t44), .n 46 (.load 3 t45), .n 47 (.move t9), .n 48 (.move t0), .n 49 (.indexAddr 28 t47 t48), .n 50 (.load 3 t49), .n 51 (.binOp .add 3 t46 t50 3), .n 52 (.indexAddr 28 t43 t44), .z (.store 3 t52 t51)])))) (.R [.n 53 (.binOp .add 3 t22 (.const (.int .i64 1)) 3), .n 22 (.move t53)]))))))) (.q (.R [.n 54 (.move t7), .n 55 (.call ⟨.value (.func 60), #[t54], #[28]⟩), .n 56 (.extract t55 0), .n 57 (.extract t55 1), .n 4 (.assign t56), .n 5 (.assign t57)]) .r)))))) := by kernel_rfl
/-! fluxion/infer.come -/
theorem w24 : Try.f24.body.map (absT C) = some (.q (.R [.n 6 (.assign (.const (.slice none 0 0))), .n 7 (.assign (.const (.int .i64 0)))]) (.q (.R [.n 13 (.move t2), .n 14 (.indexAddr 26 t13 (.const (.int .i64 0))), .n 15 (.load 28 t14), .n 16 (.call ⟨.value (.func 35), #[t15], #[28]⟩), .n 8 (.assign t16)]) (.q (.R [.n 17 (.move t1), .n 18 (.call ⟨.value (.func 36), #[t17], #[23]⟩), .n 9 (.assign t18)]) (.q (.R [.n 10 (.assign (.func 37))]) (.q (.q (.R [.n 19 (.move t0)]) (.b 0 (.q (.b 10 (.q (.b 9 (.q (.b 8 (.q (.b 7 (.q (.b 6 (.q (.b 5 (.q (.b 4 (.q (.b 3 (.q (.b 2 (.q (.b 1 (.q (.q (.q (.q (.R [.n 21 (.binOp .eql 22 t19 (.const (.int .i64 1)) 22), .n 20 (.assign t21)]) (.c t20 .s (.q (.R [.n 22 (.binOp .eql 22 t19 (.const (.int .i64 2)) 22), .n 20 (.assign t22)]) (.c t20 .s (.q (.R [.n 23 (.binOp .eql 22 t19 (.const (.int .i64 3)) 22), .n 20 (.assign t23)]) (.c t20 .s (.R [.n 24 (.binOp .eql 22 t19 (.const (.int .i64 4)) 22), .n 20 (.assign t24)]))))))) (.c t20 (.x 1) .s)) (.q (.q (.R [.n 26 (.binOp .eql 22 t19 (.const (.int .i64 19)) 22), .n 25 (.assign t26)]) (.c t25 (.x 2) .s)) (.q (.q (.R [.n 28 (.binOp .eql 22 t19 (.const (.int .i64 10)) 22), .n 27 (.assign t28)]) (.c t27 (.x 3) .s)) (.q (.q (.R [.n 30 (.binOp .eql 22 t19 (.const (.int .i64 11)) 22), .n 29 (.assign t30)]) (.c t29 (.x 4) .s)) (.q (.q (.R [.n 32 (.binOp .eql 22 t19 (.const (.int .i64 12)) 22), .n 31 (.assign t32)]) (.c t31 (.x 5) .s)) (.q (.q (.R [.n 34 (.binOp .eql 22 t19 (.const (.int .i64 13)) 22), .n 33 (.assign t34)]) (.c t33 (.x 6) .s)) (.q (.q (.q (.R [.n 36 (.binOp .eql 22 t19 (.const (.int .i64 14)) 22), .n 35 (.assign t36)]) (.c t35 .s (.R [.n 37 (.binOp .eql 22 t19 (.const (.int .i64 20)) 22), .n 35 (.assign t37)]))) (.c t35 (.x 7) .s)) (.q (.q (.R [.n 39 (.binOp .eql 22 t19 (.const (.int .i64 15)) 22), .n 38 (.assign t39)]) (.c t38 (.x 8) .s)) (.q (.q (.R [.n 41 (.binOp .eql 22 t19 (.const (.int .i64 16)) 22), .n 40 (.assign t41)]) (.c t40 (.x 9) .s)) (.q (.R [.n 43 (.binOp .eql 22 t19 (.const (.int .i64 17)) 22), .n 42 (.assign t43)]) (.c t42 (.x 10) .s))))))))))) (.x 0))) (.q (.q (.R [.n 44 (.move t10), .n 45 (.move t8), .n 46 (.move t2), .n 47 (.indexAddr 26 t46 (.const (.int .i64 1))), .n 48 (.load 28 t47), .n 49 (.call ⟨.value (.func 38), #[t45, t48], #[28, 28]⟩), .n 50 (.move t8), .n 51 (.call ⟨.value t44, #[t49, t50], #[4, 28]⟩), .n 52 (.extract t51 0), .n 53 (.extract t51 1), .n 6 (.assign t52), .n 7 (.assign t53)]) .r) (.x 0)))) (.q (.R [.n 55 (.move t8), .n 56 (.move t2), .n 57 (.indexAddr 26 t56 (.const (.int .i64 1))), .n 58 (.load 28 t57), .n 59 (.call ⟨.value (.func 39), #[t55, t58], #[28, 28]⟩), .n 54 (.move t59), .n 60 (.extract t54 0), .n 61 (.extract t54 1), .n 11 (.assign t60), .n 12 (.assign t61)]) (.q (.q (.R [.n 62 (.move t12), .n 63 (.binOp .eql 29 t62 (.const (.int .i64 0)) 29), .n 64 (.move t63), .g (some 65) (.move t2) 64 true, .g (some 66) (.indexAddr 26 t65 (.const (.int .i64 2))) 64 true, .g (some 67) (.load 28 t66) 64 true, .g (some 68) (.move t11) 64 true, .g (some 69) (.call ⟨.value (.func 40), #[t67, t68], #[28, 28]⟩) 64 true, .g (some 70) (.binOp .neq 29 t69 (.const (.int .i64 0)) 29) 64 true, .n 71 (.pick t64 t70 (.const (.bool false)))]) (.c t71 (.q (.R [.n 6 (.assign (.const (.slice none 0 0))), .n 7 (.assign (.const (.int .i64 13)))]) .r) .s)) (.q (.R [.n 72 (.move t12), .n 73 (.binOp .neq 29 t72 (.const (.int .i64 0)) 29)]) (.c t73 (.q (.R [.n 74 (.move t12), .n 6 (.assign (.const (.slice none 0 0))), .n 7 (.assign t74)]) .r) .s)))))) (.q (.q (.R [.n 75 (.move t8), .n 76 (.move t2), .n 77 (.indexAddr 26 t76 (.const (.int .i64 1))), .n 78 (.load 28 t77), .n 79 (.call ⟨.value (.func 39), #[t75, t78], #[28, 28]⟩), .n 80 (.extract t79 0), .n 81 (.extract t79 1), .n 6 (.assign t80), .n 7 (.assign t81)]) .r) (.x 0)))) (.q (.q (.R [.n 82 (.move t8), .n 83 (.move t1), .n 84 (.call ⟨.value (.func 41), #[t82, t83], #[28, 23]⟩), .n 85 (.extract t84 0), .n 86 (.extract t84 1), .n 6 (.assign t85), .n 7 (.assign t86)]) .r) (.x 0)))) (.q (.q (.R [.n 87 (.move t10), .n 88 (.move t8), .n 89 (.call ⟨.value (.func 29), #[t88], #[28]⟩), .n 90 (.move t9), .n 91 (.call ⟨.value (.func 29), #[t90], #[28]⟩), .n 92 (.binOp .eql 3 t89 t91 3), .n 93 (.move t9), .n 94 (.call ⟨.value t87, #[t92, t93], #[4, 28]⟩), .n 95 (.extract t94 0), .n 96 (.extract t94 1), .n 6 (.assign t95), .n 7 (.assign t96)]) .r) (.x 0)))) (.q (.q (.R [.n 97 (.move t10), .n 98 (.move t8), .n 99 (.move t9), .n 100 (.call ⟨.value (.func 40), #[t98, t99], #[28, 28]⟩), .n 101 (.binOp .eql 29 t100 (.const (.int .i64 0)) 29), .n 102 (.move t9), .n 103 (.call ⟨.value t97, #[t101, t102], #[4, 28]⟩), .n 104 (.extract t103 0), .n 105 (.extract t103 1), .n 6 (.assign t104), .n 7 (.assign t105)]) .r) (.x 0)))) (.q (.q (.R [.n 106 (.move t10), .n 107 (.move t1), .n 108 (.move t8), .n 109 (.call ⟨.builtin .len, #[t108], #[28]⟩), .n 110 (.call ⟨.value (.func 42), #[t107, t109], #[23, 3]⟩), .n 111 (.binOp .eql 29 t110 (.const (.int .i64 0)) 29), .n 112 (.move t8), .n 113 (.move t1), .n 114 (.call ⟨.value (.func 43), #[t112, t113], #[28, 23]⟩), .n 115 (.call ⟨.value t106, #[t111, t114], #[4, 28]⟩), .n 116 (.extract t115 0), .n 117 (.extract t115 1), .n 6 (.assign t116), .n 7 (.assign t117)]) .r) (.x 0)))) (.q (.q (.R [.n 118 (.move t8), .n 119 (.move t1), .n 120 (.call ⟨.value (.func 44), #[t118, t119, .func 45], #[28, 23, 72]⟩), .n 121 (.extract t120 0), .n 122 (.extract t120 1), .n 6 (.assign t121), .n 7 (.assign t122)]) .r) (.x 0)))) (.q (.q (.R [.n 123 (.move t8), .n 124 (.move t1), .n 125 (.call ⟨.value (.func 44), #[t123, t124, .func 46], #[28, 23, 72]⟩), .n 126 (.extract t125 0), .n 127 (.extract t125 1), .n 6 (.assign t126), .n 7 (.assign t127)]) .r) (.x 0)))) (.q (.q (.R [.n 128 (.move t1), .n 129 (.indexAddr 23 t128 (.const (.int .i64 0))), .n 130 (.load 3 t129), .n 131 (.move t2), .n 132 (.call ⟨.value (.func 47), #[t130, t131], #[3, 26]⟩), .n 133 (.extract t132 0), .n 134 (.extract t132 1), .n 6 (.assign t133), .n 7 (.assign t134)]) .r) (.x 0))))) (.q (.R [.n 135 (.move t8), .n 6 (.assign t135), .n 7 (.assign (.const (.int .i64 0)))]) .r)))))) := by kernel_rfl
/-! fluxion/infer.come$1 -/
theorem w37 : Try.f37.body.map (absT C) = some (.q (.R [.n 4 (.assign (.const (.slice none 0 0))), .n 5 (.assign (.const (.int .i64 0)))]) (.q (.q (.R [.n 6 (.move t0), .n 7 (.unOp .not 4 t6)]) (.c t7 (.q (.R [.n 4 (.assign (.const (.slice none 0 0))), .n 5 (.assign (.const (.int .i64 13)))]) .r) .s)) (.q (.R [.n 8 (.move t1), .n 4 (.assign t8), .n 5 (.assign (.const (.int .i64 0)))]) .r))) := by kernel_rfl
/-! fluxion/infer.come$2 -/
theorem w45 : Try.f45.body.map (absT C) = some (.q (.R [.n 6 (.assign (.const (.int .i64 0))), .n 7 (.assign (.const (.bool false)))]) (.q (.R [.n 8 (.move t2), .n 9 (.move t1), .n 10 (.binOp .sub 3 t8 t9 3), .n 11 (.move t2), .n 12 (.move t0), .n 13 (.binOp .leq 3 t11 t12 3), .n 6 (.assign t10), .n 7 (.assign t13)]) .r)) := by kernel_rfl
/-! fluxion/infer.come$3 -/
theorem w46 : Try.f46.body.map (absT C) = some (.q (.R [.n 6 (.assign (.const (.int .i64 0))), .n 7 (.assign (.const (.bool false)))]) (.q (.R [.n 8 (.move t0), .n 9 (.move t1), .n 10 (.binOp .add 3 t8 t9 3), .n 11 (.move t2), .n 12 (.binOp .add 3 t10 t11 3), .n 6 (.assign t12), .n 7 (.assign (.const (.bool true)))]) .r)) := by kernel_rfl
/-! fluxion/infer.Shape -/
theorem w10 : Try.f10.body.map (absT C) = some (.q (.R [.n 4 (.box 25 t1), .n 6 (.assign (.const (.slice none 0 0))), .n 7 (.assign (.const (.int .i64 0)))]) (.q (.q (.R [.n 12 (.move t0), .n 13 (.load 25 t4), .n 14 (.call ⟨.value (.func 22), #[t12, t13], #[3, 25]⟩), .n 8 (.assign t14)]) (.q (.R [.n 15 (.move t8), .n 16 (.binOp .neq 29 t15 (.const (.int .i64 0)) 29)]) (.c t16 (.q (.R [.n 17 (.move t8), .n 6 (.assign (.const (.slice none 0 0))), .n 7 (.assign t17)]) .r) .s))) (.q (.q (.R [.n 18 (.move t2), .n 19 (.call ⟨.builtin .len, #[t18], #[26]⟩), .n 20 (.fieldAddr 25 t4 1), .n 21 (.load 23 t20), .n 22 (.call ⟨.builtin .len, #[t21], #[23]⟩), .n 23 (.binOp .neq 3 t19 t22 3)]) (.c t23 (.q (.R [.n 6 (.assign (.const (.slice none 0 0))), .n 7 (.assign (.const (.int .i64 10)))]) .r) .s)) (.q (.q (.R [.n 24 (.move t2), .n 25 (.call ⟨.builtin .len, #[t24], #[26]⟩), .n 26 (.move (.const (.int .i64 0)))]) (.b 0 (.l (.q (.R [.n 27 (.binOp .lss 3 t26 t25 3)]) (.q (.c t27 .s (.x 0)) (.q (.b 1 (.q (.R [.n 28 (.indexAddr 26 t24 t26), .n 29 (.load 28 t28), .n 10 (.assign t29)]) (.q (.R [.n 30 (.move t10), .n 31 (.call ⟨.value (.func 23), #[t30], #[28]⟩), .n 11 (.assign t31)]) (.q (.R [.n 32 (.move t11), .n 33 (.binOp .neq 29 t32 (.const (.int .i64 0)) 29)]) (.c t33 (.q (.R [.n 34 (.move t11), .n 6 (.assign (.const (.slice none 0 0))), .n 7 (.assign t34)]) .r) .s))))) (.R [.n 35 (.binOp .add 3 t26 (.const (.int .i64 1)) 3), .n 26 (.move t35)]))))))) (.q (.D true [.n 36 (.fieldAddr 25 t4 0), .n 37 (.load 22 t36), .n 38 (.move t0), .n 39 (.load 25 t4), .n 40 (.move t2), .n 41 (.indexAddr 26 t40 (.const (.int .i64 0))), .n 42 (.load 28 t41), .n 43 (.call ⟨.builtin .len, #[t42], #[28]⟩), .n 44 (.buildSlice 23 1 #[(0, t43)]), .n 45 (.call ⟨.value (.func 25), #[t38, t39, t44], #[3, 25, 23]⟩), .n 46 (.move t2), .n 47 (.call ⟨.value (.func 24), #[t37, t45, t46], #[22, 23, 26]⟩), .n 48 (.extract t47 0), .n 49 (.extract t47 1), .n 6 (.assign t48), .n 7 (.assign t49)]) .r))))) := by kernel_rfl
/-! fluxion/infer.Grows -/
theorem w20 : Try.f20.body.map (absT C) = some (.q (.R [.n 4 (.box 25 t1), .n 6 (.assign (.const (.bool false)))]) (.q (.R [.n 13 (.move t0), .n 14 (.load 25 t4), .n 15 (.move t2), .n 16 (.call ⟨.value (.func 10), #[t13, t14, t15], #[3, 25, 26]⟩), .n 12 (.move t16), .n 17 (.extract t12 0), .n 18 (.extract t12 1), .n 7 (.assign t17), .n 8 (.assign t18)]) (.q (.R [.n 9 (.assign (.const (.int .i64 0)))]) (.q (.q (.R [.n 19 (.move t2), .n 20 (.call ⟨.builtin .len, #[t19], #[26]⟩), .n 21 (.move (.const (.int .i64 0)))]) (.b 0 (.l (.q (.R [.n 22 (.binOp .lss 3 t21 t20 3)]) (.q (.c t22 .s (.x 0)) (.q (.b 1 (.q (.R [.n 23 (.indexAddr 26 t19 t21), .n 24 (.load 28 t23), .n 11 (.assign t24)]) (.R [.n 25 (.move t9), .n 26 (.move t11), .n 27 (.call ⟨.value (.func 29), #[t26], #[28]⟩), .n 28 (.binOp .add 3 t25 t27 3), .n 9 (.assign t28)]))) (.R [.n 29 (.binOp .add 3 t21 (.const (.int .i64 1)) 3), .n 21 (.move t29)]))))))) (.q (.R [.n 30 (.move t8), .n 31 (.binOp .eql 29 t30 (.const (.int .i64 0)) 29), .n 32 (.move t31), .g (some 33) (.move t7) 32 true, .g (some 34) (.call ⟨.value (.func 29), #[t33], #[28]⟩) 32 true, .g (some 35) (.move t9) 32 true, .g (some 36) (.binOp .gtr 3 t34 t35 3) 32 true, .n 37 (.pick t32 t36 (.const (.bool false))), .n 6 (.assign t37)]) .r))))) := by kernel_rfl
end Go.Proofs.Ytlomgfdepllanaa
end

section
set_option maxRecDepth 100000
namespace Go.Proofs.Ytlomgfdepllanaa
open Go Go.Bv
/-! fluxion/fluxionlaw12.node -/
theorem w21 : Try.f21.body.map (absT C) = some (.q (.R [.n 6 (.alloc 25)]) (.q (.R [.n 7 (.move t0), .n 8 (.move t1), .n 9 (.makeSlice 23 t8 t8), .n 10 (.move t2), .n 11 (.build 25 #[(0, t7), (1, t9), (2, t10)]), .z (.store 25 t6 t11)]) .r)) := by kernel_rfl
/-! fluxion/fluxionlaw12.known -/
theorem w9 : Try.f9.body.map (absT C) = some (.q (.R [.n 0 (.assign (.const (.bool false)))]) (.q (.R [.n 16 (.call ⟨.value (.func 21), #[.const (.int .i64 10), .const (.int .i64 2), .const (.slice none 0 0)], #[22, 3, 23]⟩), .n 17 (.buildSlice 28 2 #[(0, .const (.int .i64 2)), (1, .const (.int .i64 3))]), .n 18 (.buildSlice 28 2 #[(0, .const (.int .i64 3)), (1, .const (.int .i64 4))]), .n 19 (.buildSlice 26 2 #[(0, t17), (1, t18)]), .n 20 (.call ⟨.value (.func 10), #[.const (.int .i64 3), t16, t19], #[3, 25, 26]⟩), .n 15 (.move t20), .n 21 (.extract t15 0), .n 22 (.extract t15 1), .n 1 (.assign t21), .n 2 (.assign t22)]) (.q (.R [.n 24 (.call ⟨.value (.func 21), #[.const (.int .i64 10), .const (.int .i64 2), .const (.slice none 0 0)], #[22, 3, 23]⟩), .n 25 (.buildSlice 28 2 #[(0, .const (.int .i64 2)), (1, .const (.int .i64 3))]), .n 26 (.buildSlice 28 2 #[(0, .const (.int .i64 2)), (1, .const (.int .i64 3))]), .n 27 (.buildSlice 26 2 #[(0, t25), (1, t26)]), .n 28 (.call ⟨.value (.func 10), #[.const (.int .i64 3), t24, t27], #[3, 25, 26]⟩), .n 23 (.move t28), .n 29 (.extract t23 0), .n 30 (.extract t23 1), .n 3 (.assign t29), .n 4 (.assign t30)]) (.q (.R [.n 32 (.call ⟨.value (.func 21), #[.const (.int .i64 19), .const (.int .i64 3), .const (.slice none 0 0)], #[22, 3, 23]⟩), .n 33 (.buildSlice 28 2 #[(0, .const (.int .i64 2)), (1, .const (.int .i64 3))]), .n 34 (.buildSlice 28 2 #[(0, .const (.int .i64 3)), (1, .const (.int .i64 4))]), .n 35 (.buildSlice 28 1 #[(0, .const (.int .i64 4))]), .n 36 (.buildSlice 26 3 #[(0, t33), (1, t34), (2, t35)]), .n 37 (.call ⟨.value (.func 10), #[.const (.int .i64 2), t32, t36], #[3, 25, 26]⟩), .n 31 (.move t37), .n 38 (.extract t31 0), .n 39 (.extract t31 1), .n 5 (.assign t38), .n 6 (.assign t39)]) (.q (.R [.n 41 (.call ⟨.value (.func 21), #[.const (.int .i64 19), .const (.int .i64 3), .const (.slice none 0 0)], #[22, 3, 23]⟩), .n 42 (.buildSlice 28 2 #[(0, .const (.int .i64 2)), (1, .const (.int .i64 3))]), .n 43 (.buildSlice 28 2 #[(0, .const (.int .i64 3)), (1, .const (.int .i64 4))]), .n 44 (.buildSlice 28 1 #[(0, .const (.int .i64 3))]), .n 45 (.buildSlice 26 3 #[(0, t42), (1, t43), (2, t44)]), .n 46 (.call ⟨.value (.func 10), #[.const (.int .i64 2), t41, t45], #[3, 25, 26]⟩), .n 40 (.move t46), .n 47 (.extract t40 0), .n 48 (.extract t40 1), .n 7 (.assign t47), .n 8 (.assign t48)]) (.q (.R [.n 50 (.buildSlice 23 1 #[(0, .const (.int .i64 1))]), .n 51 (.call ⟨.value (.func 21), #[.const (.int .i64 14), .const (.int .i64 1), t50], #[22, 3, 23]⟩), .n 52 (.buildSlice 28 3 #[(0, .const (.int .i64 2)), (1, .const (.int .i64 3)), (2, .const (.int .i64 4))]), .n 53 (.buildSlice 26 1 #[(0, t52)]), .n 54 (.call ⟨.value (.func 10), #[.const (.int .i64 3), t51, t53], #[3, 25, 26]⟩), .n 49 (.move t54), .n 55 (.extract t49 0), .n 56 (.extract t49 1), .n 9 (.assign t55), .n 10 (.assign t56)]) (.q (.R [.n 58 (.buildSlice 23 4 #[(0, .const (.int .i64 1)), (1, .const (.int .i64 0)), (2, .const (.int .i64 0)), (3, .const (.int .i64 2))]), .n 59 (.call ⟨.value (.func 21), #[.const (.int .i64 16), .const (.int .i64 1), t58], #[22, 3, 23]⟩), .n 60 (.buildSlice 28 2 #[(0, .const (.int .i64 2)), (1, .const (.int .i64 2))]), .n 61 (.buildSlice 26 1 #[(0, t60)]), .n 62 (.call ⟨.value (.func 10), #[.const (.int .i64 3), t59, t61], #[3, 25, 26]⟩), .n 57 (.move t62), .n 63 (.extract t57 0), .n 64 (.extract t57 1), .n 11 (.assign t63), .n 12 (.assign t64)]) (.q (.R [.n 66 (.buildSlice 23 1 #[(0, .const (.int .i64 0))]), .n 67 (.call ⟨.value (.func 21), #[.const (.int .i64 17), .const (.int .i64 2), t66], #[22, 3, 23]⟩), .n 68 (.buildSlice 28 2 #[(0, .const (.int .i64 2)), (1, .const (.int .i64 3))]), .n 69 (.buildSlice 28 2 #[(0, .const (.int .i64 5)), (1, .const (.int .i64 3))]), .n 70 (.buildSlice 26 2 #[(0, t68), (1, t69)]), .n 71 (.call ⟨.value (.func 10), #[.const (.int .i64 3), t67, t70], #[3, 25, 26]⟩), .n 65 (.move t71), .n 72 (.extract t65 0), .n 73 (.extract t65 1), .n 13 (.assign t72), .n 14 (.assign t73)]) (.q (.R [.n 74 (.move t2), .n 75 (.binOp .eql 29 t74 (.const (.int .i64 0)) 29), .n 76 (.move t75), .g (some 77) (.move t1) 76 true, .g (some 78) (.buildSlice 23 2 #[(0, .const (.int .i64 2)), (1, .const (.int .i64 4))]) 76 true, .g (some 79) (.call ⟨.value (.func 13), #[t77, t78], #[23, 23]⟩) 76 true, .n 80 (.pick t76 t79 (.const (.bool false))), .n 81 (.move t80), .g (some 82) (.move t4) 81 true, .g (some 83) (.binOp .eql 29 t82 (.const (.int .i64 13)) 29) 81 true, .n 84 (.pick t81 t83 (.const (.bool false))), .n 85 (.move t84), .g (some 86) (.move t6) 85 true, .g (some 87) (.binOp .eql 29 t86 (.const (.int .i64 0)) 29) 85 true, .n 88 (.pick t85 t87 (.const (.bool false))), .n 89 (.move t88), .g (some 90) (.move t5) 89 true, .g (some 91) (.buildSlice 23 2 #[(0, .const (.int .i64 2)), (1, .const (.int .i64 4))]) 89 true, .g (some 92) (.call ⟨.value (.func 13), #[t90, t91], #[23, 23]⟩) 89 true, .n 93 (.pick t89 t92 (.const (.bool false))), .n 94 (.move t93), .g (some 95) (.move t8) 94 true, .g (some 96) (.binOp .eql 29 t95 (.const (.int .i64 13)) 29) 94 true, .n 97 (.pick t94 t96 (.const (.bool false))), .n 98 (.move t97), .g (some 99) (.move t10) 98 true, .g (some 100) (.binOp .eql 29 t99 (.const (.int .i64 0)) 29) 98 true, .n 101 (.pick t98 t100 (.const (.bool false))), .n 102 (.move t101), .g (some 103) (.move t9) 102 true, .g (some 104) (.buildSlice 23 2 #[(0, .const (.int .i64 2)), (1, .const (.int .i64 4))]) 102 true, .g (some 105) (.call ⟨.value (.func 13), #[t103, t104], #[23, 23]⟩) 102 true, .n 106 (.pick t102 t105 (.const (.bool false))), .n 107 (.move t106), .g (some 108) (.move t12) 107 true, .g (some 109) (.binOp .eql 29 t108 (.const (.int .i64 0)) 29) 107 true, .n 110 (.pick t107 t109 (.const (.bool false))), .n 111 (.move t110), .g (some 112) (.move t11) 111 true, .g (some 113) (.buildSlice 23 2 #[(0, .const (.int .i64 3)), (1, .const (.int .i64 4))]) 111 true, .g (some 114) (.call ⟨.value (.func 13), #[t112, t113], #[23, 23]⟩) 111 true, .n 115 (.pick t111 t114 (.const (.bool false))), .n 116 (.move t115), .g (some 117) (.move t14) 116 true, .g (some 118) (.binOp .eql 29 t117 (.const (.int .i64 0)) 29) 116 true, .n 119 (.pick t116 t118 (.const (.bool false))), .n 120 (.move t119), .g (some 121) (.move t13) 120 true, .g (some 122) (.buildSlice 23 2 #[(0, .const (.int .i64 7)), (1, .const (.int .i64 3))]) 120 true, .g (some 123) (.call ⟨.value (.func 13), #[t121, t122], #[23, 23]⟩) 120 true, .n 124 (.pick t120 t123 (.const (.bool false))), .n 0 (.assign t124)]) .r))))))))) := by kernel_rfl
/-! fluxion/fluxionlaw12.InferTells -/
theorem w3 : Try.f3.body.map (absT C) = some (.q (.R [.n 4 (.box 25 t1), .n 6 (.assign (.const (.bool false)))]) (.q (.q (.R [.n 11 (.move t2), .n 12 (.call ⟨.builtin .len, #[t11], #[26]⟩), .n 13 (.binOp .gtr 3 t12 (.const (.int .i64 20)) 3)]) (.c t13 (.q (.R [.n 14 (.call ⟨.value (.func 9), #[], #[]⟩), .n 6 (.assign t14)]) .r) .s)) (.q (.R [.n 16 (.move t0), .n 17 (.load 25 t4), .n 18 (.move t2), .n 19 (.call ⟨.value (.func 10), #[t16, t17, t18], #[3, 25, 26]⟩), .n 15 (.move t19), .n 20 (.extract t15 0), .n 21 (.extract t15 1), .n 7 (.assign t20), .n 8 (.assign t21)]) (.q (.D true [.n 23 (.move t0), .n 24 (.load 25 t4), .n 25 (.move t2), .n 26 (.call ⟨.value (.func 12), #[t25], #[26]⟩), .n 27 (.call ⟨.value (.func 11), #[t23, t24, t26], #[3, 25, 34]⟩), .n 22 (.move t27), .n 28 (.extract t22 0), .n 29 (.extract t22 1), .n 9 (.assign t28), .n 10 (.assign t29)]) (.q (.R [.n 30 (.move t8), .n 31 (.move t10), .n 32 (.binOp .eql 3 t30 t31 3), .n 33 (.move t32), .g (some 34) (.move t7) 33 true, .g (some 35) (.move t9) 33 true, .g (some 36) (.call ⟨.value (.func 13), #[t34, t35], #[23, 23]⟩) 33 true, .n 37 (.pick t33 t36 (.const (.bool false))), .n 38 (.move t37), .g (some 39) (.call ⟨.value (.func 9), #[], #[]⟩) 38 true, .n 40 (.pick t38 t39 (.const (.bool false))), .n 6 (.assign t40)]) .r))))) := by kernel_rfl
/-! fluxion/fluxionlaw12.InferLater -/
theorem w4 : Try.f4.body.map (absT C) = some (.q (.R [.n 5 (.box 25 t1), .n 8 (.assign (.const (.bool false)))]) (.q (.q (.R [.n 14 (.move t2), .n 15 (.call ⟨.builtin .len, #[t14], #[26]⟩), .n 16 (.binOp .gtr 3 t15 (.const (.int .i64 20)) 3), .n 17 (.move t16), .g (some 18) (.move t2) 17 false, .g (some 19) (.call ⟨.builtin .len, #[t18], #[26]⟩) 17 false, .g (some 20) (.binOp .eql 3 t19 (.const (.int .i64 0)) 3) 17 false, .n 21 (.pick t17 (.const (.bool true)) t20), .n 22 (.move t21), .g (some 23) (.move t0) 22 false, .g (some 24) (.load 25 t5) 22 false, .g (some 25) (.call ⟨.value (.func 14), #[t23, t24], #[3, 25]⟩) 22 false, .g (some 26) (.binOp .neq 3 t25 (.const (.int .i64 0)) 3) 22 false, .n 27 (.pick t22 (.const (.bool true)) t26), .n 28 (.move t27), .g (some 29) (.move t3) 28 false, .g (some 30) (.move t0) 28 false, .g (some 31) (.binOp .lss 3 t29 t30 3) 28 false, .n 32 (.pick t28 (.const (.bool true)) t31), .n 33 (.move t32), .g (some 34) (.move t3) 33 false, .g (some 35) (.binOp .gtr 3 t34 (.const (.int .i64 3)) 3) 33 false, .n 36 (.pick t33 (.const (.bool true)) t35), .n 37 (.move t36), .g (some 38) (.fieldAddr 25 t5 0) 37 false, .g (some 39) (.load 22 t38) 37 false, .g (some 40) (.move t3) 37 false, .g (some 41) (.call ⟨.value (.func 15), #[t39, t40], #[22, 3]⟩) 37 false, .g (some 42) (.unOp .not 4 t41) 37 false, .n 43 (.pick t37 (.const (.bool true)) t42)]) (.c t43 (.q (.R [.n 44 (.call ⟨.value (.func 9), #[], #[]⟩), .n 8 (.assign t44)]) .r) .s)) (.q (.D true [.n 45 (.fieldAddr 25 t5 0), .n 46 (.load 22 t45), .n 47 (.fieldAddr 25 t5 1), .n 48 (.load 23 t47), .n 49 (.move t0), .n 50 (.load 25 t5), .n 51 (.move t2), .n 52 (.indexAddr 26 t51 (.const (.int .i64 0))), .n 53 (.load 28 t52), .n 54 (.call ⟨.builtin .len, #[t53], #[28]⟩), .n 55 (.call ⟨.value (.func 16), #[t49, t50, t54], #[3, 25, 3]⟩), .n 56 (.build 25 #[(0, t46), (1, t48), (2, t55)]), .n 9 (.alloc 25), .z (.store 25 t9 t56)]) (.q (.q (.R [.n 57 (.fieldAddr 25 t5 0), .n 58 (.load 22 t57), .n 59 (.binOp .eql 22 t58 (.const (.int .i64 11)) 22), .n 60 (.move t59), .g (some 61) (.fieldAddr 25 t5 2) 60 true, .g (some 62) (.load 23 t61) 60 true, .g (some 63) (.call ⟨.builtin .len, #[t62], #[23]⟩) 60 true, .g (some 64) (.binOp .eql 3 t63 (.const (.int .i64 0)) 3) 60 true, .n 65 (.pick t60 t64 (.const (.bool false))), .n 66 (.move t65), .g (some 67) (.move t0) 66 true, .g (some 68) (.binOp .eql 3 t67 (.const (.int .i64 1)) 3) 66 true, .n 69 (.pick t66 t68 (.const (.bool false))), .n 70 (.move t69), .g (some 71) (.move t2) 70 true, .g (some 72) (.indexAddr 26 t71 (.const (.int .i64 0))) 70 true, .g (some 73) (.load 28 t72) 70 true, .g (some 74) (.call ⟨.builtin .len, #[t73], #[28]⟩) 70 true, .g (some 75) (.binOp .gtr 3 t74 (.const (.int .i64 4)) 3) 70 true, .n 76 (.pick t70 t75 (.const (.bool false)))]) (.c t76 (.q (.R [.n 77 (.call ⟨.value (.func 9), #[], #[]⟩), .n 8 (.assign t77)]) .r) .s)) (.q (.R [.n 79 (.move t0), .n 80 (.load 25 t5), .n 81 (.move t2), .n 82 (.call ⟨.value (.func 10), #[t79, t80, t81], #[3, 25, 26]⟩), .n 78 (.move t82), .n 83 (.extract t78 0), .n 84 (.extract t78 1), .n 10 (.assign t83), .n 11 (.assign t84)]) (.q (.q (.R [.n 85 (.move t11), .n 86 (.binOp .neq 29 t85 (.const (.int .i64 0)) 29)]) (.c t86 (.q (.R [.n 87 (.call ⟨.value (.func 9), #[], #[]⟩), .n 8 (.assign t87)]) .r) .s)) (.q (.q (.R [.n 88 (.move t3), .n 89 (.binOp .lss 3 t88 (.const (.int .i64 3)) 3), .n 90 (.move t89), .g (some 91) (.fieldAddr 25 t9 2) 90 true, .g (some 92) (.load 23 t91) 90 true, .g (some 93) (.call ⟨.builtin .len, #[t92], #[23]⟩) 90 true, .g (some 94) (.binOp .eql 3 t93 (.const (.int .i64 0)) 3) 90 true, .n 95 (.pick t90 t94 (.const (.bool false))), .n 96 (.move t95), .g (some 97) (.move t3) 96 true, .g (some 98) (.fieldAddr 25 t5 0) 96 true, .g (some 99) (.load 22 t98) 96 true, .g (some 100) (.call ⟨.value (.func 17), #[t97, t99], #[3, 22]⟩) 96 true, .n 101 (.pick t96 t100 (.const (.bool false)))]) (.c t101 (.q (.R [.n 102 (.call ⟨.value (.func 9), #[], #[]⟩), .n 8 (.assign t102)]) .r) .s)) (.q (.R [.n 104 (.move t3), .n 105 (.load 25 t9), .n 106 (.move t2), .n 107 (.call ⟨.value (.func 10), #[t104, t105, t106], #[3, 25, 26]⟩), .n 103 (.move t107), .n 108 (.extract t103 0), .n 109 (.extract t103 1), .n 12 (.assign t108), .n 13 (.assign t109)]) (.q (.R [.n 110 (.move t13), .n 111 (.binOp .eql 29 t110 (.const (.int .i64 0)) 29), .n 112 (.move t111), .g (some 113) (.move t10) 112 true, .g (some 114) (.move t12) 112 true, .g (some 115) (.call ⟨.value (.func 13), #[t113, t114], #[23, 23]⟩) 112 true, .n 116 (.pick t112 t115 (.const (.bool false))), .n 117 (.move t116), .g (some 118) (.call ⟨.value (.func 9), #[], #[]⟩) 117 true, .n 119 (.pick t117 t118 (.const (.bool false))), .n 8 (.assign t119)]) .r))))))))) := by kernel_rfl
/-! fluxion/fluxionlaw12.InferFew -/
theorem w5 : Try.f5.body.map (absT C) = some (.q (.R [.n 4 (.box 25 t1), .n 6 (.assign (.const (.bool false)))]) (.q (.q (.R [.n 11 (.move t2), .n 12 (.call ⟨.builtin .len, #[t11], #[26]⟩), .n 13 (.binOp .gtr 3 t12 (.const (.int .i64 20)) 3)]) (.c t13 (.q (.R [.n 14 (.call ⟨.value (.func 9), #[], #[]⟩), .n 6 (.assign t14)]) .r) .s)) (.q (.R [.n 16 (.move t0), .n 17 (.load 25 t4), .n 18 (.move t2), .n 19 (.call ⟨.value (.func 10), #[t16, t17, t18], #[3, 25, 26]⟩), .n 15 (.move t19), .n 20 (.extract t15 0), .n 21 (.extract t15 1), .n 7 (.assign t20), .n 8 (.assign t21)]) (.q (.q (.R [.n 22 (.move t0), .n 23 (.load 25 t4), .n 24 (.call ⟨.value (.func 14), #[t22, t23], #[3, 25]⟩), .n 25 (.binOp .neq 3 t24 (.const (.int .i64 0)) 3)]) (.c t25 (.q (.R [.n 26 (.move t8), .n 27 (.move t0), .n 28 (.load 25 t4), .n 29 (.call ⟨.value (.func 14), #[t27, t28], #[3, 25]⟩), .n 30 (.binOp .eql 3 t26 t29 3), .n 31 (.move t30), .g (some 32) (.call ⟨.value (.func 9), #[], #[]⟩) 31 true, .n 33 (.pick t31 t32 (.const (.bool false))), .n 6 (.assign t33)]) .r) .s)) (.q (.q (.R [.n 34 (.move t2), .n 35 (.call ⟨.builtin .len, #[t34], #[26]⟩), .n 36 (.fieldAddr 25 t4 1), .n 37 (.load 23 t36), .n 38 (.call ⟨.builtin .len, #[t37], #[23]⟩), .n 39 (.binOp .neq 3 t35 t38 3)]) (.c t39 (.q (.R [.n 40 (.move t8), .n 41 (.binOp .eql 29 t40 (.const (.int .i64 10)) 29), .n 42 (.move t41), .g (some 43) (.call ⟨.value (.func 9), #[], #[]⟩) 42 true, .n 44 (.pick t42 t43 (.const (.bool false))), .n 6 (.assign t44)]) .r) .s)) (.q (.q (.R [.n 9 (.assign (.const (.int .i64 0)))]) (.b 0 (.l (.q (.q (.R [.n 45 (.move t9), .n 46 (.move t2), .n 47 (.call ⟨.builtin .len, #[t46], #[26]⟩), .n 48 (.binOp .lss 3 t45 t47 3)]) (.c t48 .s (.x 0))) (.q (.b 1 (.q (.R [.n 51 (.move t2), .n 52 (.move t9), .n 53 (.indexAddr 26 t51 t52), .n 54 (.load 28 t53), .n 55 (.call ⟨.value (.func 18), #[t54], #[23]⟩), .n 10 (.assign t55)]) (.q (.R [.n 56 (.move t10), .n 57 (.binOp .neq 3 t56 (.const (.int .i64 0)) 3)]) (.c t57 (.q (.R [.n 58 (.move t8), .n 59 (.move t10), .n 60 (.binOp .eql 3 t58 t59 3), .n 61 (.move t60), .g (some 62) (.call ⟨.value (.func 9), #[], #[]⟩) 61 true, .n 63 (.pick t61 t62 (.const (.bool false))), .n 6 (.assign t63)]) .r) .s)))) (.R [.n 49 (.move t9), .n 50 (.binOp .add 3 t49 (.const (.int .i64 1)) 3), .n 9 (.assign t50)])))))) (.q (.R [.n 64 (.move t8), .n 65 (.binOp .eql 29 t64 (.const (.int .i64 0)) 29), .n 66 (.move t65), .g (some 67) (.move t8) 66 false, .g (some 68) (.binOp .eql 29 t67 (.const (.int .i64 13)) 29) 66 false, .n 69 (.pick t66 (.const (.bool true)) t68), .n 70 (.move t69), .g (some 71) (.move t8) 70 false, .g (some 72) (.binOp .eql 29 t71 (.const (.int .i64 14)) 29) 70 false, .n 73 (.pick t70 (.const (.bool true)) t72), .n 74 (.move t73), .g (some 75) (.call ⟨.value (.func 9), #[], #[]⟩) 74 true, .n 76 (.pick t74 t75 (.const (.bool false))), .n 6 (.assign t76)]) .r))))))) := by kernel_rfl
/-! fluxion/fluxionlaw12.InferMay -/
theorem w7 : Try.f7.body.map (absT C) = some (.q (.R [.n 4 (.box 25 t1), .n 6 (.assign (.const (.bool false)))]) (.q (.q (.R [.n 11 (.move t2), .n 12 (.call ⟨.builtin .len, #[t11], #[26]⟩), .n 13 (.binOp .gtr 3 t12 (.const (.int .i64 20)) 3)]) (.c t13 (.q (.R [.n 14 (.call ⟨.value (.func 9), #[], #[]⟩), .n 6 (.assign t14)]) .r) .s)) (.q (.R [.n 16 (.move t0), .n 17 (.load 25 t4), .n 18 (.move t2), .n 19 (.call ⟨.value (.func 10), #[t16, t17, t18], #[3, 25, 26]⟩), .n 15 (.move t19), .n 20 (.extract t15 0), .n 21 (.extract t15 1), .n 7 (.assign t20), .n 8 (.assign t21)]) (.q (.R [.n 9 (.assign (.const (.int .i64 0)))]) (.q (.q (.R [.n 10 (.assign (.const (.int .i64 0)))]) (.b 0 (.l (.q (.q (.R [.n 22 (.move t10), .n 23 (.move t2), .n 24 (.call ⟨.builtin .len, #[t23], #[26]⟩), .n 25 (.binOp .lss 3 t22 t24 3)]) (.c t25 .s (.x 0))) (.q (.b 1 (.R [.n 28 (.move t9), .n 29 (.move t2), .n 30 (.move t10), .n 31 (.indexAddr 26 t29 t30), .n 32 (.load 28 t31), .n 33 (.call ⟨.value (.func 19), #[t32], #[23]⟩), .n 34 (.binOp .add 3 t28 t33 3), .n 9 (.assign t34)])) (.R [.n 26 (.move t10), .n 27 (.binOp .add 3 t26 (.const (.int .i64 1)) 3), .n 10 (.assign t27)])))))) (.q (.q (.R [.n 35 (.move t8), .n 36 (.binOp .neq 29 t35 (.const (.int .i64 0)) 29)]) (.c t36 (.q (.R [.n 37 (.move t7), .n 38 (.call ⟨.builtin .len, #[t37], #[28]⟩), .n 39 (.binOp .eql 3 t38 (.const (.int .i64 0)) 3), .n 40 (.move t39), .g (some 41) (.move t0) 40 true, .g (some 42) (.load 25 t4) 40 true, .g (some 43) (.move t2) 40 true, .g (some 44) (.call ⟨.value (.func 20), #[t41, t42, t43], #[3, 25, 26]⟩) 40 true, .g (some 45) (.unOp .not 4 t44) 40 true, .n 46 (.pick t40 t45 (.const (.bool false))), .n 47 (.move t46), .g (some 48) (.call ⟨.value (.func 9), #[], #[]⟩) 47 true, .n 49 (.pick t47 t48 (.const (.bool false))), .n 6 (.assign t49)]) .r) .s)) (.q (.R [.n 50 (.move t7), .n 51 (.call ⟨.value (.func 18), #[t50], #[23]⟩), .n 52 (.binOp .eql 3 t51 (.const (.int .i64 0)) 3), .n 53 (.move t52), .g (some 54) (.move t0) 53 true, .g (some 55) (.load 25 t4) 53 true, .g (some 56) (.move t2) 53 true, .g (some 57) (.call ⟨.value (.func 20), #[t54, t55, t56], #[3, 25, 26]⟩) 53 true, .g (some 58) (.move t7) 53 true, .g (some 59) (.call ⟨.value (.func 19), #[t58], #[23]⟩) 53 true, .g (some 60) (.move t9) 53 true, .g (some 61) (.binOp .gtr 3 t59 t60 3) 53 true, .g (some 62) (.binOp .eql 4 t57 t61 4) 53 true, .n 63 (.pick t53 t62 (.const (.bool false))), .n 64 (.move t63), .g (some 65) (.call ⟨.value (.func 9), #[], #[]⟩) 64 true, .n 66 (.pick t64 t65 (.const (.bool false))), .n 6 (.assign t66)]) .r))))))) := by kernel_rfl
/-! fluxion/fluxionlaw12.InferScalars -/
theorem w8 : Try.f8.body.map (absT C) = some (.q (.R [.n 0 (.assign (.const (.bool false)))]) (.q (.R [.n 16 (.call ⟨.value (.func 21), #[.const (.int .i64 1), .const (.int .i64 2), .const (.slice none 0 0)], #[22, 3, 23]⟩), .n 17 (.buildSlice 26 2 #[(0, .const (.slice none 0 0)), (1, .const (.slice none 0 0))]), .n 18 (.call ⟨.value (.func 10), #[.const (.int .i64 3), t16, t17], #[3, 25, 26]⟩), .n 15 (.move t18), .n 19 (.extract t15 0), .n 20 (.extract t15 1), .n 1 (.assign t19), .n 2 (.assign t20)]) (.q (.R [.n 22 (.call ⟨.value (.func 21), #[.const (.int .i64 14), .const (.int .i64 1), .const (.slice none 0 0)], #[22, 3, 23]⟩), .n 23 (.buildSlice 26 1 #[(0, .const (.slice none 0 0))]), .n 24 (.call ⟨.value (.func 10), #[.const (.int .i64 3), t22, t23], #[3, 25, 26]⟩), .n 21 (.move t24), .n 25 (.extract t21 0), .n 26 (.extract t21 1), .n 3 (.assign t25), .n 4 (.assign t26)]) (.q (.R [.n 28 (.call ⟨.value (.func 21), #[.const (.int .i64 11), .const (.int .i64 1), .const (.slice none 0 0)], #[22, 3, 23]⟩), .n 29 (.buildSlice 26 1 #[(0, .const (.slice none 0 0))]), .n 30 (.call ⟨.value (.func 10), #[.const (.int .i64 1), t28, t29], #[3, 25, 26]⟩), .n 27 (.move t30), .n 31 (.extract t27 0), .n 32 (.extract t27 1), .n 5 (.assign t31), .n 6 (.assign t32)]) (.q (.R [.n 34 (.buildSlice 23 2 #[(0, .const (.int .i64 2)), (1, .const (.int .i64 2))]), .n 35 (.call ⟨.value (.func 21), #[.const (.int .i64 13), .const (.int .i64 1), t34], #[22, 3, 23]⟩), .n 36 (.buildSlice 26 1 #[(0, .const (.slice none 0 0))]), .n 37 (.call ⟨.value (.func 10), #[.const (.int .i64 3), t35, t36], #[3, 25, 26]⟩), .n 33 (.move t37), .n 38 (.extract t33 0), .n 39 (.extract t33 1), .n 7 (.assign t38), .n 8 (.assign t39)]) (.q (.R [.n 41 (.call ⟨.value (.func 21), #[.const (.int .i64 12), .const (.int .i64 1), .const (.slice none 0 0)], #[22, 3, 23]⟩), .n 42 (.buildSlice 28 2 #[(0, .const (.int .i64 1)), (1, .const (.int .i64 1))]), .n 43 (.buildSlice 26 1 #[(0, t42)]), .n 44 (.call ⟨.value (.func 10), #[.const (.int .i64 3), t41, t43], #[3, 25, 26]⟩), .n 40 (.move t44), .n 45 (.extract t40 0), .n 46 (.extract t40 1), .n 9 (.assign t45), .n 10 (.assign t46)]) (.q (.R [.n 48 (.buildSlice 23 1 #[(0, .const (.int .i64 0))]), .n 49 (.call ⟨.value (.func 21), #[.const (.int .i64 17), .const (.int .i64 1), t48], #[22, 3, 23]⟩), .n 50 (.buildSlice 26 1 #[(0, .const (.slice none 0 0))]), .n 51 (.call ⟨.value (.func 10), #[.const (.int .i64 3), t49, t50], #[3, 25, 26]⟩), .n 47 (.move t51), .n 52 (.extract t47 0), .n 53 (.extract t47 1), .n 11 (.assign t52), .n 12 (.assign t53)]) (.q (.R [.n 55 (.call ⟨.value (.func 21), #[.const (.int .i64 10), .const (.int .i64 2), .const (.slice none 0 0)], #[22, 3, 23]⟩), .n 56 (.buildSlice 26 2 #[(0, .const (.slice none 0 0)), (1, .const (.slice none 0 0))]), .n 57 (.call ⟨.value (.func 10), #[.const (.int .i64 3), t55, t56], #[3, 25, 26]⟩), .n 54 (.move t57), .n 58 (.extract t54 0), .n 59 (.extract t54 1), .n 13 (.assign t58), .n 14 (.assign t59)]) (.q (.R [.n 60 (.move t2), .n 61 (.binOp .eql 29 t60 (.const (.int .i64 0)) 29), .n 62 (.move t61), .g (some 63) (.move t1) 62 true, .g (some 64) (.call ⟨.builtin .len, #[t63], #[28]⟩) 62 true, .g (some 65) (.binOp .eql 3 t64 (.const (.int .i64 0)) 3) 62 true, .n 66 (.pick t62 t65 (.const (.bool false))), .n 67 (.move t66), .g (some 68) (.move t4) 67 true, .g (some 69) (.binOp .eql 29 t68 (.const (.int .i64 0)) 29) 67 true, .n 70 (.pick t67 t69 (.const (.bool false))), .n 71 (.move t70), .g (some 72) (.move t3) 71 true, .g (some 73) (.call ⟨.builtin .len, #[t72], #[28]⟩) 71 true, .g (some 74) (.binOp .eql 3 t73 (.const (.int .i64 0)) 3) 71 true, .n 75 (.pick t71 t74 (.const (.bool false))), .n 76 (.move t75), .g (some 77) (.move t6) 76 true, .g (some 78) (.binOp .eql 29 t77 (.const (.int .i64 0)) 29) 76 true, .n 79 (.pick t76 t78 (.const (.bool false))), .n 80 (.move t79), .g (some 81) (.move t5) 80 true, .g (some 82) (.call ⟨.builtin .len, #[t81], #[28]⟩) 80 true, .g (some 83) (.binOp .eql 3 t82 (.const (.int .i64 0)) 3) 80 true, .n 84 (.pick t80 t83 (.const (.bool false))), .n 85 (.move t84), .g (some 86) (.move t8) 85 true, .g (some 87) (.binOp .eql 29 t86 (.const (.int .i64 0)) 29) 85 true, .n 88 (.pick t85 t87 (.const (.bool false))), .n 89 (.move t88), .g (some 90) (.move t7) 89 true, .g (some 91) (.buildSlice 23 2 #[(0, .const (.int .i64 2)), (1, .const (.int .i64 2))]) 89 true, .g (some 92) (.call ⟨.value (.func 13), #[t90, t91], #[23, 23]⟩) 89 true, .n 93 (.pick t89 t92 (.const (.bool false))), .n 94 (.move t93), .g (some 95) (.move t10) 94 true, .g (some 96) (.binOp .eql 29 t95 (.const (.int .i64 0)) 29) 94 true, .n 97 (.pick t94 t96 (.const (.bool false))), .n 98 (.move t97), .g (some 99) (.move t9) 98 true, .g (some 100) (.call ⟨.builtin .len, #[t99], #[28]⟩) 98 true, .g (some 101) (.binOp .eql 3 t100 (.const (.int .i64 0)) 3) 98 true, .n 102 (.pick t98 t101 (.const (.bool false))), .n 103 (.move t102), .g (some 104) (.move t12) 103 true, .g (some 105) (.binOp .eql 29 t104 (.const (.int .i64 13)) 29) 103 true, .n 106 (.pick t103 t105 (.const (.bool false))), .n 107 (.move t106), .g (some 108) (.move t14) 107 true, .g (some 109) (.binOp .eql 29 t108 (.const (.int .i64 13)) 29) 107 true, .n 110 (.pick t107 t109 (.const (.bool false))), .n 111 (.move t110), .g (some 112) (.buildSlice 23 2 #[(0, .const (.int .i64 2)), (1, .const (.int .i64 2))]) 111 true, .g (some 113) (.call ⟨.value (.func 21), #[.const (.int .i64 13), .const (.int .i64 1), t112], #[22, 3, 23]⟩) 111 true, .g (some 114) (.buildSlice 26 1 #[(0, .const (.slice none 0 0))]) 111 true, .g (some 115) (.call ⟨.value (.func 20), #[.const (.int .i64 3), t113, t114], #[3, 25, 26]⟩) 111 true, .n 116 (.pick t111 t115 (.const (.bool false))), .n 117 (.move t116), .g (some 118) (.call ⟨.value (.func 21), #[.const (.int .i64 1), .const (.int .i64 2), .const (.slice none 0 0)], #[22, 3, 23]⟩) 117 true, .g (some 119) (.buildSlice 26 2 #[(0, .const (.slice none 0 0)), (1, .const (.slice none 0 0))]) 117 true, .g (some 120) (.call ⟨.value (.func 20), #[.const (.int .i64 3), t118, t119], #[3, 25, 26]⟩) 117 true, .g (some 121) (.unOp .not 4 t120) 117 true, .n 122 (.pick t117 t121 (.const (.bool false))), .n 123 (.move t122), .g (some 124) (.call ⟨.value (.func 9), #[], #[]⟩) 123 true, .n 125 (.pick t123 t124 (.const (.bool false))), .n 0 (.assign t125)]) .r))))))))) := by kernel_rfl
end Go.Proofs.Ytlomgfdepllanaa
end
