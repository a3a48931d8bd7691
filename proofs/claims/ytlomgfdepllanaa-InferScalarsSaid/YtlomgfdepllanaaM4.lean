/-
  Parts Base, CodeA, CodeC, one behind the other: a program logic of our own, contracts of functions.
-/
import Derived.Test.YtlomgfdepllanaaM3
import Derived.Test.YtlomgfdepllanaaProg
section
/-! What is known of the types of this seat. -/
namespace Go.Proofs.Ytlomgfdepllanaa
open Go.Bv
set_option maxRecDepth 100000
noncomputable def y1 : Ty := { z := .nilFunc, size := 1, bytes := 8, agg := false, sl := none, arr := none, fs := [] }
theorem y1_ok : OKt Try.prog 1 y1 := ⟨by kernel_rfl, ⟨_, Try.underlying1, rfl, rfl, rfl, rfl, rfl, rfl, rfl⟩, fun _ => rfl, rfl⟩
noncomputable def y2 : Ty := { z := (.int .i64 0), size := 1, bytes := 8, agg := false, sl := none, arr := none, fs := [], ik := some .i64 }
theorem y2_ok : OKt Try.prog 2 y2 := ⟨by kernel_rfl, ⟨_, Try.underlying2, rfl, rfl, rfl, rfl, rfl, rfl, rfl⟩, fun _ => rfl, rfl⟩
noncomputable def y3 : Ty := { z := (.int .i64 0), size := 1, bytes := 8, agg := false, sl := none, arr := none, fs := [], ik := some .i64 }
theorem y3_ok : OKt Try.prog 3 y3 := ⟨by kernel_rfl, ⟨_, Try.underlying3, rfl, rfl, rfl, rfl, rfl, rfl, rfl⟩, fun _ => rfl, rfl⟩
noncomputable def y4 : Ty := { z := (.bool false), size := 1, bytes := 1, agg := false, sl := none, arr := none, fs := [], bl := true }
theorem y4_ok : OKt Try.prog 4 y4 := ⟨by kernel_rfl, ⟨_, Try.underlying4, rfl, rfl, rfl, rfl, rfl, rfl, rfl⟩, fun _ => rfl, rfl⟩
noncomputable def y5 : Ty := { z := (.int .u8 0), size := 1, bytes := 1, agg := false, sl := none, arr := none, fs := [], ik := some .u8 }
theorem y5_ok : OKt Try.prog 5 y5 := ⟨by kernel_rfl, ⟨_, Try.underlying5, rfl, rfl, rfl, rfl, rfl, rfl, rfl⟩, fun _ => rfl, rfl⟩
noncomputable def y6 : Ty := { z := (.int .u8 0), size := 1, bytes := 1, agg := false, sl := none, arr := none, fs := [], ik := some .u8 }
theorem y6_ok : OKt Try.prog 6 y6 := ⟨by kernel_rfl, ⟨_, Try.underlying6, rfl, rfl, rfl, rfl, rfl, rfl, rfl⟩, fun _ => rfl, rfl⟩
noncomputable def y7 : Ty := { z := (.agg #[(.int .i64 0), (.int .i64 0), (.bool false), (.int .u8 0)]), size := 4, bytes := 24, agg := true, sl := none, arr := none, fs := [(0, 2), (1, 3), (2, 4), (3, 6)] }
theorem y7_ok : OKt Try.prog 7 y7 := ⟨by kernel_rfl, ⟨_, Try.underlying7, rfl, rfl, rfl, rfl, rfl, rfl, rfl⟩, (fun h => by cases h), rfl⟩
noncomputable def y8 : Ty := { z := (.agg #[(.int .i64 0), (.int .i64 0), (.bool false), (.int .u8 0)]), size := 4, bytes := 24, agg := true, sl := none, arr := none, fs := [(0, 2), (1, 3), (2, 4), (3, 6)] }
theorem y8_ok : OKt Try.prog 8 y8 := ⟨by kernel_rfl, ⟨_, Try.underlying8, rfl, rfl, rfl, rfl, rfl, rfl, rfl⟩, (fun h => by cases h), rfl⟩
noncomputable def y9 : Ty := { z := (.string ⟨#[]⟩), size := 1, bytes := 16, agg := false, sl := none, arr := none, fs := [], str := true }
theorem y9_ok : OKt Try.prog 9 y9 := ⟨by kernel_rfl, ⟨_, Try.underlying9, rfl, rfl, rfl, rfl, rfl, rfl, rfl⟩, fun _ => rfl, rfl⟩
noncomputable def y10 : Ty := { z := (.string ⟨#[]⟩), size := 1, bytes := 16, agg := false, sl := none, arr := none, fs := [], str := true }
theorem y10_ok : OKt Try.prog 10 y10 := ⟨by kernel_rfl, ⟨_, Try.underlying10, rfl, rfl, rfl, rfl, rfl, rfl, rfl⟩, fun _ => rfl, rfl⟩
noncomputable def y11 : Ty := { z := (.string ⟨#[]⟩), size := 1, bytes := 16, agg := false, sl := none, arr := none, fs := [], str := true }
theorem y11_ok : OKt Try.prog 11 y11 := ⟨by kernel_rfl, ⟨_, Try.underlying11, rfl, rfl, rfl, rfl, rfl, rfl, rfl⟩, fun _ => rfl, rfl⟩
noncomputable def y12 : Ty := { z := (.int .u64 0), size := 1, bytes := 8, agg := false, sl := none, arr := none, fs := [], ik := some .u64 }
theorem y12_ok : OKt Try.prog 12 y12 := ⟨by kernel_rfl, ⟨_, Try.underlying12, rfl, rfl, rfl, rfl, rfl, rfl, rfl⟩, fun _ => rfl, rfl⟩
noncomputable def y13 : Ty := { z := (.agg #[(.string ⟨#[]⟩), (.int .u64 0)]), size := 2, bytes := 24, agg := true, sl := none, arr := none, fs := [(0, 9), (1, 12)] }
theorem y13_ok : OKt Try.prog 13 y13 := ⟨by kernel_rfl, ⟨_, Try.underlying13, rfl, rfl, rfl, rfl, rfl, rfl, rfl⟩, (fun h => by cases h), rfl⟩
noncomputable def y14 : Ty := { z := (.agg #[(.string ⟨#[]⟩), (.int .u64 0)]), size := 2, bytes := 24, agg := true, sl := none, arr := none, fs := [(0, 9), (1, 12)] }
theorem y14_ok : OKt Try.prog 14 y14 := ⟨by kernel_rfl, ⟨_, Try.underlying14, rfl, rfl, rfl, rfl, rfl, rfl, rfl⟩, (fun h => by cases h), rfl⟩
noncomputable def y15 : Ty := { z := (.pointer none), size := 1, bytes := 8, agg := false, sl := none, arr := none, fs := [] }
theorem y15_ok : OKt Try.prog 15 y15 := ⟨by kernel_rfl, ⟨_, Try.underlying15, rfl, rfl, rfl, rfl, rfl, rfl, rfl⟩, fun _ => rfl, rfl⟩
noncomputable def y16 : Ty := { z := (.pointer none), size := 1, bytes := 8, agg := false, sl := none, arr := none, fs := [] }
theorem y16_ok : OKt Try.prog 16 y16 := ⟨by kernel_rfl, ⟨_, Try.underlying16, rfl, rfl, rfl, rfl, rfl, rfl, rfl⟩, fun _ => rfl, rfl⟩
noncomputable def y17 : Ty := { z := (.pointer none), size := 1, bytes := 8, agg := false, sl := none, arr := none, fs := [] }
theorem y17_ok : OKt Try.prog 17 y17 := ⟨by kernel_rfl, ⟨_, Try.underlying17, rfl, rfl, rfl, rfl, rfl, rfl, rfl⟩, fun _ => rfl, rfl⟩
noncomputable def y18 : Ty := { z := (.agg #[(.pointer none)]), size := 1, bytes := 8, agg := true, sl := none, arr := none, fs := [(0, 17)] }
theorem y18_ok : OKt Try.prog 18 y18 := ⟨by kernel_rfl, ⟨_, Try.underlying18, rfl, rfl, rfl, rfl, rfl, rfl, rfl⟩, (fun h => by cases h), rfl⟩
noncomputable def y19 : Ty := { z := (.agg #[(.pointer none)]), size := 1, bytes := 8, agg := true, sl := none, arr := none, fs := [(0, 17)] }
theorem y19_ok : OKt Try.prog 19 y19 := ⟨by kernel_rfl, ⟨_, Try.underlying19, rfl, rfl, rfl, rfl, rfl, rfl, rfl⟩, (fun h => by cases h), rfl⟩
noncomputable def y21 : Ty := { z := (.int .i32 0), size := 1, bytes := 4, agg := false, sl := none, arr := none, fs := [], ik := some .i32 }
theorem y21_ok : OKt Try.prog 21 y21 := ⟨by kernel_rfl, ⟨_, Try.underlying21, rfl, rfl, rfl, rfl, rfl, rfl, rfl⟩, fun _ => rfl, rfl⟩
noncomputable def y22 : Ty := { z := (.int .i64 0), size := 1, bytes := 8, agg := false, sl := none, arr := none, fs := [], ik := some .i64 }
theorem y22_ok : OKt Try.prog 22 y22 := ⟨by kernel_rfl, ⟨_, Try.underlying22, rfl, rfl, rfl, rfl, rfl, rfl, rfl⟩, fun _ => rfl, rfl⟩
noncomputable def y23 : Ty := { z := (.slice none 0 0), size := 1, bytes := 24, agg := false, sl := some 3, arr := none, fs := [] }
theorem y23_ok : OKt Try.prog 23 y23 := ⟨by kernel_rfl, ⟨_, Try.underlying23, rfl, rfl, rfl, rfl, rfl, rfl, rfl⟩, fun _ => rfl, rfl⟩
noncomputable def y24 : Ty := { z := (.agg #[(.int .i64 0), (.slice none 0 0), (.slice none 0 0)]), size := 3, bytes := 56, agg := true, sl := none, arr := none, fs := [(0, 22), (1, 23), (2, 23)] }
theorem y24_ok : OKt Try.prog 24 y24 := ⟨by kernel_rfl, ⟨_, Try.underlying24, rfl, rfl, rfl, rfl, rfl, rfl, rfl⟩, (fun h => by cases h), rfl⟩
noncomputable def y25 : Ty := { z := (.agg #[(.int .i64 0), (.slice none 0 0), (.slice none 0 0)]), size := 3, bytes := 56, agg := true, sl := none, arr := none, fs := [(0, 22), (1, 23), (2, 23)] }
theorem y25_ok : OKt Try.prog 25 y25 := ⟨by kernel_rfl, ⟨_, Try.underlying25, rfl, rfl, rfl, rfl, rfl, rfl, rfl⟩, (fun h => by cases h), rfl⟩
noncomputable def y26 : Ty := { z := (.slice none 0 0), size := 1, bytes := 24, agg := false, sl := some 28, arr := none, fs := [] }
theorem y26_ok : OKt Try.prog 26 y26 := ⟨by kernel_rfl, ⟨_, Try.underlying26, rfl, rfl, rfl, rfl, rfl, rfl, rfl⟩, fun _ => rfl, rfl⟩
noncomputable def y27 : Ty := { z := .nilFunc, size := 1, bytes := 8, agg := false, sl := none, arr := none, fs := [] }
theorem y27_ok : OKt Try.prog 27 y27 := ⟨by kernel_rfl, ⟨_, Try.underlying27, rfl, rfl, rfl, rfl, rfl, rfl, rfl⟩, fun _ => rfl, rfl⟩
noncomputable def y28 : Ty := { z := (.slice none 0 0), size := 1, bytes := 24, agg := false, sl := some 3, arr := none, fs := [] }
theorem y28_ok : OKt Try.prog 28 y28 := ⟨by kernel_rfl, ⟨_, Try.underlying28, rfl, rfl, rfl, rfl, rfl, rfl, rfl⟩, fun _ => rfl, rfl⟩
noncomputable def y29 : Ty := { z := (.int .i64 0), size := 1, bytes := 8, agg := false, sl := none, arr := none, fs := [], ik := some .i64 }
theorem y29_ok : OKt Try.prog 29 y29 := ⟨by kernel_rfl, ⟨_, Try.underlying29, rfl, rfl, rfl, rfl, rfl, rfl, rfl⟩, fun _ => rfl, rfl⟩
noncomputable def y31 : Ty := { z := .nilFunc, size := 1, bytes := 8, agg := false, sl := none, arr := none, fs := [] }
theorem y31_ok : OKt Try.prog 31 y31 := ⟨by kernel_rfl, ⟨_, Try.underlying31, rfl, rfl, rfl, rfl, rfl, rfl, rfl⟩, fun _ => rfl, rfl⟩
noncomputable def y33 : Ty := { z := .nilFunc, size := 1, bytes := 8, agg := false, sl := none, arr := none, fs := [] }
theorem y33_ok : OKt Try.prog 33 y33 := ⟨by kernel_rfl, ⟨_, Try.underlying33, rfl, rfl, rfl, rfl, rfl, rfl, rfl⟩, fun _ => rfl, rfl⟩
noncomputable def y34 : Ty := { z := (.slice none 0 0), size := 1, bytes := 24, agg := false, sl := some 23, arr := none, fs := [] }
theorem y34_ok : OKt Try.prog 34 y34 := ⟨by kernel_rfl, ⟨_, Try.underlying34, rfl, rfl, rfl, rfl, rfl, rfl, rfl⟩, fun _ => rfl, rfl⟩
noncomputable def y35 : Ty := { z := .nilFunc, size := 1, bytes := 8, agg := false, sl := none, arr := none, fs := [] }
theorem y35_ok : OKt Try.prog 35 y35 := ⟨by kernel_rfl, ⟨_, Try.underlying35, rfl, rfl, rfl, rfl, rfl, rfl, rfl⟩, fun _ => rfl, rfl⟩
noncomputable def y36 : Ty := { z := .nilFunc, size := 1, bytes := 8, agg := false, sl := none, arr := none, fs := [] }
theorem y36_ok : OKt Try.prog 36 y36 := ⟨by kernel_rfl, ⟨_, Try.underlying36, rfl, rfl, rfl, rfl, rfl, rfl, rfl⟩, fun _ => rfl, rfl⟩
noncomputable def y37 : Ty := { z := .nilFunc, size := 1, bytes := 8, agg := false, sl := none, arr := none, fs := [] }
theorem y37_ok : OKt Try.prog 37 y37 := ⟨by kernel_rfl, ⟨_, Try.underlying37, rfl, rfl, rfl, rfl, rfl, rfl, rfl⟩, fun _ => rfl, rfl⟩
noncomputable def y38 : Ty := { z := .nilFunc, size := 1, bytes := 8, agg := false, sl := none, arr := none, fs := [] }
theorem y38_ok : OKt Try.prog 38 y38 := ⟨by kernel_rfl, ⟨_, Try.underlying38, rfl, rfl, rfl, rfl, rfl, rfl, rfl⟩, fun _ => rfl, rfl⟩
noncomputable def y39 : Ty := { z := .nilFunc, size := 1, bytes := 8, agg := false, sl := none, arr := none, fs := [] }
theorem y39_ok : OKt Try.prog 39 y39 := ⟨by kernel_rfl, ⟨_, Try.underlying39, rfl, rfl, rfl, rfl, rfl, rfl, rfl⟩, fun _ => rfl, rfl⟩
noncomputable def y40 : Ty := { z := .nilFunc, size := 1, bytes := 8, agg := false, sl := none, arr := none, fs := [] }
theorem y40_ok : OKt Try.prog 40 y40 := ⟨by kernel_rfl, ⟨_, Try.underlying40, rfl, rfl, rfl, rfl, rfl, rfl, rfl⟩, fun _ => rfl, rfl⟩
noncomputable def y41 : Ty := { z := .nilFunc, size := 1, bytes := 8, agg := false, sl := none, arr := none, fs := [] }
theorem y41_ok : OKt Try.prog 41 y41 := ⟨by kernel_rfl, ⟨_, Try.underlying41, rfl, rfl, rfl, rfl, rfl, rfl, rfl⟩, fun _ => rfl, rfl⟩
noncomputable def y42 : Ty := { z := .nilFunc, size := 1, bytes := 8, agg := false, sl := none, arr := none, fs := [] }
theorem y42_ok : OKt Try.prog 42 y42 := ⟨by kernel_rfl, ⟨_, Try.underlying42, rfl, rfl, rfl, rfl, rfl, rfl, rfl⟩, fun _ => rfl, rfl⟩
noncomputable def y43 : Ty := { z := .nilFunc, size := 1, bytes := 8, agg := false, sl := none, arr := none, fs := [] }
theorem y43_ok : OKt Try.prog 43 y43 := ⟨by kernel_rfl, ⟨_, Try.underlying43, rfl, rfl, rfl, rfl, rfl, rfl, rfl⟩, fun _ => rfl, rfl⟩
noncomputable def y44 : Ty := { z := .nilFunc, size := 1, bytes := 8, agg := false, sl := none, arr := none, fs := [] }
theorem y44_ok : OKt Try.prog 44 y44 := ⟨by kernel_rfl, ⟨_, Try.underlying44, rfl, rfl, rfl, rfl, rfl, rfl, rfl⟩, fun _ => rfl, rfl⟩
noncomputable def y45 : Ty := { z := .nilFunc, size := 1, bytes := 8, agg := false, sl := none, arr := none, fs := [] }
theorem y45_ok : OKt Try.prog 45 y45 := ⟨by kernel_rfl, ⟨_, Try.underlying45, rfl, rfl, rfl, rfl, rfl, rfl, rfl⟩, fun _ => rfl, rfl⟩
noncomputable def y46 : Ty := { z := .nilFunc, size := 1, bytes := 8, agg := false, sl := none, arr := none, fs := [] }
theorem y46_ok : OKt Try.prog 46 y46 := ⟨by kernel_rfl, ⟨_, Try.underlying46, rfl, rfl, rfl, rfl, rfl, rfl, rfl⟩, fun _ => rfl, rfl⟩
noncomputable def y47 : Ty := { z := .nilFunc, size := 1, bytes := 8, agg := false, sl := none, arr := none, fs := [] }
theorem y47_ok : OKt Try.prog 47 y47 := ⟨by kernel_rfl, ⟨_, Try.underlying47, rfl, rfl, rfl, rfl, rfl, rfl, rfl⟩, fun _ => rfl, rfl⟩
noncomputable def y48 : Ty := { z := .nilFunc, size := 1, bytes := 8, agg := false, sl := none, arr := none, fs := [] }
theorem y48_ok : OKt Try.prog 48 y48 := ⟨by kernel_rfl, ⟨_, Try.underlying48, rfl, rfl, rfl, rfl, rfl, rfl, rfl⟩, fun _ => rfl, rfl⟩
noncomputable def y49 : Ty := { z := .nilFunc, size := 1, bytes := 8, agg := false, sl := none, arr := none, fs := [] }
theorem y49_ok : OKt Try.prog 49 y49 := ⟨by kernel_rfl, ⟨_, Try.underlying49, rfl, rfl, rfl, rfl, rfl, rfl, rfl⟩, fun _ => rfl, rfl⟩
noncomputable def y50 : Ty := { z := .nilFunc, size := 1, bytes := 8, agg := false, sl := none, arr := none, fs := [] }
theorem y50_ok : OKt Try.prog 50 y50 := ⟨by kernel_rfl, ⟨_, Try.underlying50, rfl, rfl, rfl, rfl, rfl, rfl, rfl⟩, fun _ => rfl, rfl⟩
noncomputable def y52 : Ty := { z := .nilFunc, size := 1, bytes := 8, agg := false, sl := none, arr := none, fs := [] }
theorem y52_ok : OKt Try.prog 52 y52 := ⟨by kernel_rfl, ⟨_, Try.underlying52, rfl, rfl, rfl, rfl, rfl, rfl, rfl⟩, fun _ => rfl, rfl⟩
noncomputable def y53 : Ty := { z := .nilFunc, size := 1, bytes := 8, agg := false, sl := none, arr := none, fs := [] }
theorem y53_ok : OKt Try.prog 53 y53 := ⟨by kernel_rfl, ⟨_, Try.underlying53, rfl, rfl, rfl, rfl, rfl, rfl, rfl⟩, fun _ => rfl, rfl⟩
noncomputable def y54 : Ty := { z := .nilFunc, size := 1, bytes := 8, agg := false, sl := none, arr := none, fs := [] }
theorem y54_ok : OKt Try.prog 54 y54 := ⟨by kernel_rfl, ⟨_, Try.underlying54, rfl, rfl, rfl, rfl, rfl, rfl, rfl⟩, fun _ => rfl, rfl⟩
noncomputable def y55 : Ty := { z := .nilFunc, size := 1, bytes := 8, agg := false, sl := none, arr := none, fs := [] }
theorem y55_ok : OKt Try.prog 55 y55 := ⟨by kernel_rfl, ⟨_, Try.underlying55, rfl, rfl, rfl, rfl, rfl, rfl, rfl⟩, fun _ => rfl, rfl⟩
noncomputable def y56 : Ty := { z := (.agg #[(.int .i64 0), (.string ⟨#[]⟩), (.int .i64 0), (.int .i64 0), (.int .i64 0), (.int .i64 0), .nilFunc, (.int .i64 0)]), size := 8, bytes := 72, agg := true, sl := none, arr := none, fs := [(0, 22), (1, 9), (2, 3), (3, 3), (4, 3), (5, 3), (6, 55), (7, 3)] }
theorem y56_ok : OKt Try.prog 56 y56 := ⟨by kernel_rfl, ⟨_, Try.underlying56, rfl, rfl, rfl, rfl, rfl, rfl, rfl⟩, (fun h => by cases h), rfl⟩
noncomputable def y57 : Ty := { z := (.agg #[(.int .i64 0), (.string ⟨#[]⟩), (.int .i64 0), (.int .i64 0), (.int .i64 0), (.int .i64 0), .nilFunc, (.int .i64 0)]), size := 8, bytes := 72, agg := true, sl := none, arr := none, fs := [(0, 22), (1, 9), (2, 3), (3, 3), (4, 3), (5, 3), (6, 55), (7, 3)] }
theorem y57_ok : OKt Try.prog 57 y57 := ⟨by kernel_rfl, ⟨_, Try.underlying57, rfl, rfl, rfl, rfl, rfl, rfl, rfl⟩, (fun h => by cases h), rfl⟩
noncomputable def y59 : Ty := { z := .nilFunc, size := 1, bytes := 8, agg := false, sl := none, arr := none, fs := [] }
theorem y59_ok : OKt Try.prog 59 y59 := ⟨by kernel_rfl, ⟨_, Try.underlying59, rfl, rfl, rfl, rfl, rfl, rfl, rfl⟩, fun _ => rfl, rfl⟩
noncomputable def y60 : Ty := { z := .nilFunc, size := 1, bytes := 8, agg := false, sl := none, arr := none, fs := [] }
theorem y60_ok : OKt Try.prog 60 y60 := ⟨by kernel_rfl, ⟨_, Try.underlying60, rfl, rfl, rfl, rfl, rfl, rfl, rfl⟩, fun _ => rfl, rfl⟩
noncomputable def y61 : Ty := { z := .nilFunc, size := 1, bytes := 8, agg := false, sl := none, arr := none, fs := [] }
theorem y61_ok : OKt Try.prog 61 y61 := ⟨by kernel_rfl, ⟨_, Try.underlying61, rfl, rfl, rfl, rfl, rfl, rfl, rfl⟩, fun _ => rfl, rfl⟩
noncomputable def y62 : Ty := { z := .nilFunc, size := 1, bytes := 8, agg := false, sl := none, arr := none, fs := [] }
theorem y62_ok : OKt Try.prog 62 y62 := ⟨by kernel_rfl, ⟨_, Try.underlying62, rfl, rfl, rfl, rfl, rfl, rfl, rfl⟩, fun _ => rfl, rfl⟩
noncomputable def y63 : Ty := { z := .nilFunc, size := 1, bytes := 8, agg := false, sl := none, arr := none, fs := [] }
theorem y63_ok : OKt Try.prog 63 y63 := ⟨by kernel_rfl, ⟨_, Try.underlying63, rfl, rfl, rfl, rfl, rfl, rfl, rfl⟩, fun _ => rfl, rfl⟩
noncomputable def y64 : Ty := { z := .nilFunc, size := 1, bytes := 8, agg := false, sl := none, arr := none, fs := [] }
theorem y64_ok : OKt Try.prog 64 y64 := ⟨by kernel_rfl, ⟨_, Try.underlying64, rfl, rfl, rfl, rfl, rfl, rfl, rfl⟩, fun _ => rfl, rfl⟩
noncomputable def y65 : Ty := { z := .nilFunc, size := 1, bytes := 8, agg := false, sl := none, arr := none, fs := [] }
theorem y65_ok : OKt Try.prog 65 y65 := ⟨by kernel_rfl, ⟨_, Try.underlying65, rfl, rfl, rfl, rfl, rfl, rfl, rfl⟩, fun _ => rfl, rfl⟩
noncomputable def y66 : Ty := { z := .nilFunc, size := 1, bytes := 8, agg := false, sl := none, arr := none, fs := [] }
theorem y66_ok : OKt Try.prog 66 y66 := ⟨by kernel_rfl, ⟨_, Try.underlying66, rfl, rfl, rfl, rfl, rfl, rfl, rfl⟩, fun _ => rfl, rfl⟩
noncomputable def y67 : Ty := { z := .nilFunc, size := 1, bytes := 8, agg := false, sl := none, arr := none, fs := [] }
theorem y67_ok : OKt Try.prog 67 y67 := ⟨by kernel_rfl, ⟨_, Try.underlying67, rfl, rfl, rfl, rfl, rfl, rfl, rfl⟩, fun _ => rfl, rfl⟩
noncomputable def y68 : Ty := { z := .nilFunc, size := 1, bytes := 8, agg := false, sl := none, arr := none, fs := [] }
theorem y68_ok : OKt Try.prog 68 y68 := ⟨by kernel_rfl, ⟨_, Try.underlying68, rfl, rfl, rfl, rfl, rfl, rfl, rfl⟩, fun _ => rfl, rfl⟩
noncomputable def y69 : Ty := { z := .nilFunc, size := 1, bytes := 8, agg := false, sl := none, arr := none, fs := [] }
theorem y69_ok : OKt Try.prog 69 y69 := ⟨by kernel_rfl, ⟨_, Try.underlying69, rfl, rfl, rfl, rfl, rfl, rfl, rfl⟩, fun _ => rfl, rfl⟩
noncomputable def y70 : Ty := { z := .nilFunc, size := 1, bytes := 8, agg := false, sl := none, arr := none, fs := [] }
theorem y70_ok : OKt Try.prog 70 y70 := ⟨by kernel_rfl, ⟨_, Try.underlying70, rfl, rfl, rfl, rfl, rfl, rfl, rfl⟩, fun _ => rfl, rfl⟩
noncomputable def y71 : Ty := { z := .nilFunc, size := 1, bytes := 8, agg := false, sl := none, arr := none, fs := [] }
theorem y71_ok : OKt Try.prog 71 y71 := ⟨by kernel_rfl, ⟨_, Try.underlying71, rfl, rfl, rfl, rfl, rfl, rfl, rfl⟩, fun _ => rfl, rfl⟩
noncomputable def y72 : Ty := { z := .nilFunc, size := 1, bytes := 8, agg := false, sl := none, arr := none, fs := [] }
theorem y72_ok : OKt Try.prog 72 y72 := ⟨by kernel_rfl, ⟨_, Try.underlying72, rfl, rfl, rfl, rfl, rfl, rfl, rfl⟩, fun _ => rfl, rfl⟩
noncomputable def y73 : Ty := { z := .nilFunc, size := 1, bytes := 8, agg := false, sl := none, arr := none, fs := [] }
theorem y73_ok : OKt Try.prog 73 y73 := ⟨by kernel_rfl, ⟨_, Try.underlying73, rfl, rfl, rfl, rfl, rfl, rfl, rfl⟩, fun _ => rfl, rfl⟩
noncomputable def y74 : Ty := { z := .nilFunc, size := 1, bytes := 8, agg := false, sl := none, arr := none, fs := [] }
theorem y74_ok : OKt Try.prog 74 y74 := ⟨by kernel_rfl, ⟨_, Try.underlying74, rfl, rfl, rfl, rfl, rfl, rfl, rfl⟩, fun _ => rfl, rfl⟩
noncomputable def y75 : Ty := { z := .nilFunc, size := 1, bytes := 8, agg := false, sl := none, arr := none, fs := [] }
theorem y75_ok : OKt Try.prog 75 y75 := ⟨by kernel_rfl, ⟨_, Try.underlying75, rfl, rfl, rfl, rfl, rfl, rfl, rfl⟩, fun _ => rfl, rfl⟩
noncomputable def y76 : Ty := { z := .nilFunc, size := 1, bytes := 8, agg := false, sl := none, arr := none, fs := [] }
theorem y76_ok : OKt Try.prog 76 y76 := ⟨by kernel_rfl, ⟨_, Try.underlying76, rfl, rfl, rfl, rfl, rfl, rfl, rfl⟩, fun _ => rfl, rfl⟩
noncomputable def y77 : Ty := { z := .nilFunc, size := 1, bytes := 8, agg := false, sl := none, arr := none, fs := [] }
theorem y77_ok : OKt Try.prog 77 y77 := ⟨by kernel_rfl, ⟨_, Try.underlying77, rfl, rfl, rfl, rfl, rfl, rfl, rfl⟩, fun _ => rfl, rfl⟩
noncomputable def y78 : Ty := { z := .nilFunc, size := 1, bytes := 8, agg := false, sl := none, arr := none, fs := [] }
theorem y78_ok : OKt Try.prog 78 y78 := ⟨by kernel_rfl, ⟨_, Try.underlying78, rfl, rfl, rfl, rfl, rfl, rfl, rfl⟩, fun _ => rfl, rfl⟩
noncomputable def y79 : Ty := { z := .nilFunc, size := 1, bytes := 8, agg := false, sl := none, arr := none, fs := [] }
theorem y79_ok : OKt Try.prog 79 y79 := ⟨by kernel_rfl, ⟨_, Try.underlying79, rfl, rfl, rfl, rfl, rfl, rfl, rfl⟩, fun _ => rfl, rfl⟩
noncomputable def y80 : Ty := { z := .nilFunc, size := 1, bytes := 8, agg := false, sl := none, arr := none, fs := [] }
theorem y80_ok : OKt Try.prog 80 y80 := ⟨by kernel_rfl, ⟨_, Try.underlying80, rfl, rfl, rfl, rfl, rfl, rfl, rfl⟩, fun _ => rfl, rfl⟩
noncomputable def y81 : Ty := { z := .nilFunc, size := 1, bytes := 8, agg := false, sl := none, arr := none, fs := [] }
theorem y81_ok : OKt Try.prog 81 y81 := ⟨by kernel_rfl, ⟨_, Try.underlying81, rfl, rfl, rfl, rfl, rfl, rfl, rfl⟩, fun _ => rfl, rfl⟩
noncomputable def y82 : Ty := { z := .nilFunc, size := 1, bytes := 8, agg := false, sl := none, arr := none, fs := [] }
theorem y82_ok : OKt Try.prog 82 y82 := ⟨by kernel_rfl, ⟨_, Try.underlying82, rfl, rfl, rfl, rfl, rfl, rfl, rfl⟩, fun _ => rfl, rfl⟩
noncomputable def y83 : Ty := { z := .nilFunc, size := 1, bytes := 8, agg := false, sl := none, arr := none, fs := [] }
theorem y83_ok : OKt Try.prog 83 y83 := ⟨by kernel_rfl, ⟨_, Try.underlying83, rfl, rfl, rfl, rfl, rfl, rfl, rfl⟩, fun _ => rfl, rfl⟩
noncomputable def y84 : Ty := { z := .nilFunc, size := 1, bytes := 8, agg := false, sl := none, arr := none, fs := [] }
theorem y84_ok : OKt Try.prog 84 y84 := ⟨by kernel_rfl, ⟨_, Try.underlying84, rfl, rfl, rfl, rfl, rfl, rfl, rfl⟩, fun _ => rfl, rfl⟩
noncomputable def y85 : Ty := { z := .nilFunc, size := 1, bytes := 8, agg := false, sl := none, arr := none, fs := [] }
theorem y85_ok : OKt Try.prog 85 y85 := ⟨by kernel_rfl, ⟨_, Try.underlying85, rfl, rfl, rfl, rfl, rfl, rfl, rfl⟩, fun _ => rfl, rfl⟩
noncomputable def y86 : Ty := { z := .nilFunc, size := 1, bytes := 8, agg := false, sl := none, arr := none, fs := [] }
theorem y86_ok : OKt Try.prog 86 y86 := ⟨by kernel_rfl, ⟨_, Try.underlying86, rfl, rfl, rfl, rfl, rfl, rfl, rfl⟩, fun _ => rfl, rfl⟩
noncomputable def y87 : Ty := { z := .nilFunc, size := 1, bytes := 8, agg := false, sl := none, arr := none, fs := [] }
theorem y87_ok : OKt Try.prog 87 y87 := ⟨by kernel_rfl, ⟨_, Try.underlying87, rfl, rfl, rfl, rfl, rfl, rfl, rfl⟩, fun _ => rfl, rfl⟩
noncomputable def y89 : Ty := { z := .nilFunc, size := 1, bytes := 8, agg := false, sl := none, arr := none, fs := [] }
theorem y89_ok : OKt Try.prog 89 y89 := ⟨by kernel_rfl, ⟨_, Try.underlying89, rfl, rfl, rfl, rfl, rfl, rfl, rfl⟩, fun _ => rfl, rfl⟩
noncomputable def y90 : Ty := { z := .nilFunc, size := 1, bytes := 8, agg := false, sl := none, arr := none, fs := [] }
theorem y90_ok : OKt Try.prog 90 y90 := ⟨by kernel_rfl, ⟨_, Try.underlying90, rfl, rfl, rfl, rfl, rfl, rfl, rfl⟩, fun _ => rfl, rfl⟩
noncomputable def y91 : Ty := { z := (.slice none 0 0), size := 1, bytes := 24, agg := false, sl := some 57, arr := none, fs := [] }
theorem y91_ok : OKt Try.prog 91 y91 := ⟨by kernel_rfl, ⟨_, Try.underlying91, rfl, rfl, rfl, rfl, rfl, rfl, rfl⟩, fun _ => rfl, rfl⟩
noncomputable def y92 : Ty := { z := .nilFunc, size := 1, bytes := 8, agg := false, sl := none, arr := none, fs := [] }
theorem y92_ok : OKt Try.prog 92 y92 := ⟨by kernel_rfl, ⟨_, Try.underlying92, rfl, rfl, rfl, rfl, rfl, rfl, rfl⟩, fun _ => rfl, rfl⟩
noncomputable def y93 : Ty := { z := .nilFunc, size := 1, bytes := 8, agg := false, sl := none, arr := none, fs := [] }
theorem y93_ok : OKt Try.prog 93 y93 := ⟨by kernel_rfl, ⟨_, Try.underlying93, rfl, rfl, rfl, rfl, rfl, rfl, rfl⟩, fun _ => rfl, rfl⟩
noncomputable def y94 : Ty := { z := .nilFunc, size := 1, bytes := 8, agg := false, sl := none, arr := none, fs := [] }
theorem y94_ok : OKt Try.prog 94 y94 := ⟨by kernel_rfl, ⟨_, Try.underlying94, rfl, rfl, rfl, rfl, rfl, rfl, rfl⟩, fun _ => rfl, rfl⟩
noncomputable def y95 : Ty := { z := .nilFunc, size := 1, bytes := 8, agg := false, sl := none, arr := none, fs := [] }
theorem y95_ok : OKt Try.prog 95 y95 := ⟨by kernel_rfl, ⟨_, Try.underlying95, rfl, rfl, rfl, rfl, rfl, rfl, rfl⟩, fun _ => rfl, rfl⟩
noncomputable def y96 : Ty := { z := .nilFunc, size := 1, bytes := 8, agg := false, sl := none, arr := none, fs := [] }
theorem y96_ok : OKt Try.prog 96 y96 := ⟨by kernel_rfl, ⟨_, Try.underlying96, rfl, rfl, rfl, rfl, rfl, rfl, rfl⟩, fun _ => rfl, rfl⟩
noncomputable def y97 : Ty := { z := .nilFunc, size := 1, bytes := 8, agg := false, sl := none, arr := none, fs := [] }
theorem y97_ok : OKt Try.prog 97 y97 := ⟨by kernel_rfl, ⟨_, Try.underlying97, rfl, rfl, rfl, rfl, rfl, rfl, rfl⟩, fun _ => rfl, rfl⟩
noncomputable def y98 : Ty := { z := .nilFunc, size := 1, bytes := 8, agg := false, sl := none, arr := none, fs := [] }
theorem y98_ok : OKt Try.prog 98 y98 := ⟨by kernel_rfl, ⟨_, Try.underlying98, rfl, rfl, rfl, rfl, rfl, rfl, rfl⟩, fun _ => rfl, rfl⟩
noncomputable def y99 : Ty := { z := .nilFunc, size := 1, bytes := 8, agg := false, sl := none, arr := none, fs := [] }
theorem y99_ok : OKt Try.prog 99 y99 := ⟨by kernel_rfl, ⟨_, Try.underlying99, rfl, rfl, rfl, rfl, rfl, rfl, rfl⟩, fun _ => rfl, rfl⟩
noncomputable def y100 : Ty := { z := .nilFunc, size := 1, bytes := 8, agg := false, sl := none, arr := none, fs := [] }
theorem y100_ok : OKt Try.prog 100 y100 := ⟨by kernel_rfl, ⟨_, Try.underlying100, rfl, rfl, rfl, rfl, rfl, rfl, rfl⟩, fun _ => rfl, rfl⟩
noncomputable def y101 : Ty := { z := .nilFunc, size := 1, bytes := 8, agg := false, sl := none, arr := none, fs := [] }
theorem y101_ok : OKt Try.prog 101 y101 := ⟨by kernel_rfl, ⟨_, Try.underlying101, rfl, rfl, rfl, rfl, rfl, rfl, rfl⟩, fun _ => rfl, rfl⟩
noncomputable def y102 : Ty := { z := .nilFunc, size := 1, bytes := 8, agg := false, sl := none, arr := none, fs := [] }
theorem y102_ok : OKt Try.prog 102 y102 := ⟨by kernel_rfl, ⟨_, Try.underlying102, rfl, rfl, rfl, rfl, rfl, rfl, rfl⟩, fun _ => rfl, rfl⟩
noncomputable def y103 : Ty := { z := (.int .u64 0), size := 1, bytes := 8, agg := false, sl := none, arr := none, fs := [], ik := some .u64 }
theorem y103_ok : OKt Try.prog 103 y103 := ⟨by kernel_rfl, ⟨_, Try.underlying103, rfl, rfl, rfl, rfl, rfl, rfl, rfl⟩, fun _ => rfl, rfl⟩
noncomputable def y104 : Ty := { z := .nilFunc, size := 1, bytes := 8, agg := false, sl := none, arr := none, fs := [] }
theorem y104_ok : OKt Try.prog 104 y104 := ⟨by kernel_rfl, ⟨_, Try.underlying104, rfl, rfl, rfl, rfl, rfl, rfl, rfl⟩, fun _ => rfl, rfl⟩
noncomputable def y105 : Ty := { z := (.int .i64 0), size := 1, bytes := 8, agg := false, sl := none, arr := none, fs := [], ik := some .i64 }
theorem y105_ok : OKt Try.prog 105 y105 := ⟨by kernel_rfl, ⟨_, Try.underlying105, rfl, rfl, rfl, rfl, rfl, rfl, rfl⟩, fun _ => rfl, rfl⟩
noncomputable def y107 : Ty := { z := .nilFunc, size := 1, bytes := 8, agg := false, sl := none, arr := none, fs := [] }
theorem y107_ok : OKt Try.prog 107 y107 := ⟨by kernel_rfl, ⟨_, Try.underlying107, rfl, rfl, rfl, rfl, rfl, rfl, rfl⟩, fun _ => rfl, rfl⟩
noncomputable def y108 : Ty := { z := .nilFunc, size := 1, bytes := 8, agg := false, sl := none, arr := none, fs := [] }
theorem y108_ok : OKt Try.prog 108 y108 := ⟨by kernel_rfl, ⟨_, Try.underlying108, rfl, rfl, rfl, rfl, rfl, rfl, rfl⟩, fun _ => rfl, rfl⟩
noncomputable def y109 : Ty := { z := .nilFunc, size := 1, bytes := 8, agg := false, sl := none, arr := none, fs := [] }
theorem y109_ok : OKt Try.prog 109 y109 := ⟨by kernel_rfl, ⟨_, Try.underlying109, rfl, rfl, rfl, rfl, rfl, rfl, rfl⟩, fun _ => rfl, rfl⟩
noncomputable def y110 : Ty := { z := .nilFunc, size := 1, bytes := 8, agg := false, sl := none, arr := none, fs := [] }
theorem y110_ok : OKt Try.prog 110 y110 := ⟨by kernel_rfl, ⟨_, Try.underlying110, rfl, rfl, rfl, rfl, rfl, rfl, rfl⟩, fun _ => rfl, rfl⟩
noncomputable def y111 : Ty := { z := .nilFunc, size := 1, bytes := 8, agg := false, sl := none, arr := none, fs := [] }
theorem y111_ok : OKt Try.prog 111 y111 := ⟨by kernel_rfl, ⟨_, Try.underlying111, rfl, rfl, rfl, rfl, rfl, rfl, rfl⟩, fun _ => rfl, rfl⟩
noncomputable def y112 : Ty := { z := (.int .u32 0), size := 1, bytes := 4, agg := false, sl := none, arr := none, fs := [], ik := some .u32 }
theorem y112_ok : OKt Try.prog 112 y112 := ⟨by kernel_rfl, ⟨_, Try.underlying112, rfl, rfl, rfl, rfl, rfl, rfl, rfl⟩, fun _ => rfl, rfl⟩
noncomputable def y113 : Ty := { z := .nilFunc, size := 1, bytes := 8, agg := false, sl := none, arr := none, fs := [] }
theorem y113_ok : OKt Try.prog 113 y113 := ⟨by kernel_rfl, ⟨_, Try.underlying113, rfl, rfl, rfl, rfl, rfl, rfl, rfl⟩, fun _ => rfl, rfl⟩
noncomputable def y114 : Ty := { z := (.int .u64 0), size := 1, bytes := 8, agg := false, sl := none, arr := none, fs := [], ik := some .u64 }
theorem y114_ok : OKt Try.prog 114 y114 := ⟨by kernel_rfl, ⟨_, Try.underlying114, rfl, rfl, rfl, rfl, rfl, rfl, rfl⟩, fun _ => rfl, rfl⟩
noncomputable def y115 : Ty := { z := (.int .u64 0), size := 1, bytes := 8, agg := false, sl := none, arr := none, fs := [], ik := some .u64 }
theorem y115_ok : OKt Try.prog 115 y115 := ⟨by kernel_rfl, ⟨_, Try.underlying115, rfl, rfl, rfl, rfl, rfl, rfl, rfl⟩, fun _ => rfl, rfl⟩
noncomputable def y116 : Ty := { z := .nilFunc, size := 1, bytes := 8, agg := false, sl := none, arr := none, fs := [] }
theorem y116_ok : OKt Try.prog 116 y116 := ⟨by kernel_rfl, ⟨_, Try.underlying116, rfl, rfl, rfl, rfl, rfl, rfl, rfl⟩, fun _ => rfl, rfl⟩
noncomputable def y117 : Ty := { z := .nilFunc, size := 1, bytes := 8, agg := false, sl := none, arr := none, fs := [] }
theorem y117_ok : OKt Try.prog 117 y117 := ⟨by kernel_rfl, ⟨_, Try.underlying117, rfl, rfl, rfl, rfl, rfl, rfl, rfl⟩, fun _ => rfl, rfl⟩
noncomputable def y118 : Ty := { z := .nilFunc, size := 1, bytes := 8, agg := false, sl := none, arr := none, fs := [] }
theorem y118_ok : OKt Try.prog 118 y118 := ⟨by kernel_rfl, ⟨_, Try.underlying118, rfl, rfl, rfl, rfl, rfl, rfl, rfl⟩, fun _ => rfl, rfl⟩
noncomputable def y119 : Ty := { z := (.pointer none), size := 1, bytes := 8, agg := false, sl := none, arr := none, fs := [] }
theorem y119_ok : OKt Try.prog 119 y119 := ⟨by kernel_rfl, ⟨_, Try.underlying119, rfl, rfl, rfl, rfl, rfl, rfl, rfl⟩, fun _ => rfl, rfl⟩
noncomputable def y120 : Ty := { z := .nilFunc, size := 1, bytes := 8, agg := false, sl := none, arr := none, fs := [] }
theorem y120_ok : OKt Try.prog 120 y120 := ⟨by kernel_rfl, ⟨_, Try.underlying120, rfl, rfl, rfl, rfl, rfl, rfl, rfl⟩, fun _ => rfl, rfl⟩
noncomputable def y121 : Ty := { z := (.pointer none), size := 1, bytes := 8, agg := false, sl := none, arr := none, fs := [] }
theorem y121_ok : OKt Try.prog 121 y121 := ⟨by kernel_rfl, ⟨_, Try.underlying121, rfl, rfl, rfl, rfl, rfl, rfl, rfl⟩, fun _ => rfl, rfl⟩
noncomputable def y122 : Ty := { z := .nilFunc, size := 1, bytes := 8, agg := false, sl := none, arr := none, fs := [] }
theorem y122_ok : OKt Try.prog 122 y122 := ⟨by kernel_rfl, ⟨_, Try.underlying122, rfl, rfl, rfl, rfl, rfl, rfl, rfl⟩, fun _ => rfl, rfl⟩
noncomputable def y123 : Ty := { z := .nilFunc, size := 1, bytes := 8, agg := false, sl := none, arr := none, fs := [] }
theorem y123_ok : OKt Try.prog 123 y123 := ⟨by kernel_rfl, ⟨_, Try.underlying123, rfl, rfl, rfl, rfl, rfl, rfl, rfl⟩, fun _ => rfl, rfl⟩
noncomputable def y124 : Ty := { z := (.agg #[(.pointer none), (.pointer none), (.pointer none), (.string ⟨#[]⟩)]), size := 4, bytes := 40, agg := true, sl := none, arr := none, fs := [(0, 17), (1, 17), (2, 17), (3, 9)] }
theorem y124_ok : OKt Try.prog 124 y124 := ⟨by kernel_rfl, ⟨_, Try.underlying124, rfl, rfl, rfl, rfl, rfl, rfl, rfl⟩, (fun h => by cases h), rfl⟩
noncomputable def y125 : Ty := { z := (.agg #[(.pointer none), (.pointer none), (.pointer none), (.string ⟨#[]⟩)]), size := 4, bytes := 40, agg := true, sl := none, arr := none, fs := [(0, 17), (1, 17), (2, 17), (3, 9)] }
theorem y125_ok : OKt Try.prog 125 y125 := ⟨by kernel_rfl, ⟨_, Try.underlying125, rfl, rfl, rfl, rfl, rfl, rfl, rfl⟩, (fun h => by cases h), rfl⟩
noncomputable def y126 : Ty := { z := (.agg #[]), size := 0, bytes := 0, agg := true, sl := none, arr := some (0, 16), fs := [] }
theorem y126_ok : OKt Try.prog 126 y126 := ⟨by kernel_rfl, ⟨_, Try.underlying126, rfl, rfl, rfl, rfl, rfl, rfl, rfl⟩, (fun h => by cases h), rfl⟩
noncomputable def y127 : Ty := { z := (.agg #[]), size := 0, bytes := 0, agg := true, sl := none, arr := none, fs := [(0, 126)] }
theorem y127_ok : OKt Try.prog 127 y127 := ⟨by kernel_rfl, ⟨_, Try.underlying127, rfl, rfl, rfl, rfl, rfl, rfl, rfl⟩, (fun h => by cases h), rfl⟩
noncomputable def y128 : Ty := { z := (.agg #[]), size := 0, bytes := 0, agg := true, sl := none, arr := none, fs := [(0, 126)] }
theorem y128_ok : OKt Try.prog 128 y128 := ⟨by kernel_rfl, ⟨_, Try.underlying128, rfl, rfl, rfl, rfl, rfl, rfl, rfl⟩, (fun h => by cases h), rfl⟩
noncomputable def y129 : Ty := { z := .nilFunc, size := 1, bytes := 8, agg := false, sl := none, arr := none, fs := [] }
theorem y129_ok : OKt Try.prog 129 y129 := ⟨by kernel_rfl, ⟨_, Try.underlying129, rfl, rfl, rfl, rfl, rfl, rfl, rfl⟩, fun _ => rfl, rfl⟩
noncomputable def y130 : Ty := { z := (.int .u8 0), size := 1, bytes := 1, agg := false, sl := none, arr := none, fs := [], ik := some .u8 }
theorem y130_ok : OKt Try.prog 130 y130 := ⟨by kernel_rfl, ⟨_, Try.underlying130, rfl, rfl, rfl, rfl, rfl, rfl, rfl⟩, fun _ => rfl, rfl⟩
noncomputable def y131 : Ty := { z := (.int .u8 0), size := 1, bytes := 1, agg := false, sl := none, arr := none, fs := [], ik := some .u8 }
theorem y131_ok : OKt Try.prog 131 y131 := ⟨by kernel_rfl, ⟨_, Try.underlying131, rfl, rfl, rfl, rfl, rfl, rfl, rfl⟩, fun _ => rfl, rfl⟩
noncomputable def y132 : Ty := { z := .nilFunc, size := 1, bytes := 8, agg := false, sl := none, arr := none, fs := [] }
theorem y132_ok : OKt Try.prog 132 y132 := ⟨by kernel_rfl, ⟨_, Try.underlying132, rfl, rfl, rfl, rfl, rfl, rfl, rfl⟩, fun _ => rfl, rfl⟩
noncomputable def y133 : Ty := { z := (.pointer none), size := 1, bytes := 8, agg := false, sl := none, arr := none, fs := [] }
theorem y133_ok : OKt Try.prog 133 y133 := ⟨by kernel_rfl, ⟨_, Try.underlying133, rfl, rfl, rfl, rfl, rfl, rfl, rfl⟩, fun _ => rfl, rfl⟩
noncomputable def y134 : Ty := { z := (.int .i32 0), size := 1, bytes := 4, agg := false, sl := none, arr := none, fs := [], ik := some .i32 }
theorem y134_ok : OKt Try.prog 134 y134 := ⟨by kernel_rfl, ⟨_, Try.underlying134, rfl, rfl, rfl, rfl, rfl, rfl, rfl⟩, fun _ => rfl, rfl⟩
noncomputable def y135 : Ty := { z := (.int .i32 0), size := 1, bytes := 4, agg := false, sl := none, arr := none, fs := [], ik := some .i32 }
theorem y135_ok : OKt Try.prog 135 y135 := ⟨by kernel_rfl, ⟨_, Try.underlying135, rfl, rfl, rfl, rfl, rfl, rfl, rfl⟩, fun _ => rfl, rfl⟩
noncomputable def y136 : Ty := { z := (.agg #[(.int .u64 0), (.int .u64 0), (.int .u32 0), (.int .u8 0), (.int .u8 0), (.int .u8 0), (.int .u8 0), .nilFunc, (.pointer none), (.int .i32 0), (.int .i32 0)]), size := 11, bytes := 48, agg := true, sl := none, arr := none, fs := [(0, 12), (1, 12), (2, 112), (3, 130), (4, 5), (5, 5), (6, 131), (7, 132), (8, 133), (9, 134), (10, 135)] }
theorem y136_ok : OKt Try.prog 136 y136 := ⟨by kernel_rfl, ⟨_, Try.underlying136, rfl, rfl, rfl, rfl, rfl, rfl, rfl⟩, (fun h => by cases h), rfl⟩
noncomputable def y137 : Ty := { z := (.agg #[(.int .u64 0), (.int .u64 0), (.int .u32 0), (.int .u8 0), (.int .u8 0), (.int .u8 0), (.int .u8 0), .nilFunc, (.pointer none), (.int .i32 0), (.int .i32 0)]), size := 11, bytes := 48, agg := true, sl := none, arr := none, fs := [(0, 12), (1, 12), (2, 112), (3, 130), (4, 5), (5, 5), (6, 131), (7, 132), (8, 133), (9, 134), (10, 135)] }
theorem y137_ok : OKt Try.prog 137 y137 := ⟨by kernel_rfl, ⟨_, Try.underlying137, rfl, rfl, rfl, rfl, rfl, rfl, rfl⟩, (fun h => by cases h), rfl⟩
noncomputable def ty : TypeId → Ty
  | 1 => y1
  | 2 => y2
  | 3 => y3
  | 4 => y4
  | 5 => y5
  | 6 => y6
  | 7 => y7
  | 8 => y8
  | 9 => y9
  | 10 => y10
  | 11 => y11
  | 12 => y12
  | 13 => y13
  | 14 => y14
  | 15 => y15
  | 16 => y16
  | 17 => y17
  | 18 => y18
  | 19 => y19
  | 21 => y21
  | 22 => y22
  | 23 => y23
  | 24 => y24
  | 25 => y25
  | 26 => y26
  | 27 => y27
  | 28 => y28
  | 29 => y29
  | 31 => y31
  | 33 => y33
  | 34 => y34
  | 35 => y35
  | 36 => y36
  | 37 => y37
  | 38 => y38
  | 39 => y39
  | 40 => y40
  | 41 => y41
  | 42 => y42
  | 43 => y43
  | 44 => y44
  | 45 => y45
  | 46 => y46
  | 47 => y47
  | 48 => y48
  | 49 => y49
  | 50 => y50
  | 52 => y52
  | 53 => y53
  | 54 => y54
  | 55 => y55
  | 56 => y56
  | 57 => y57
  | 59 => y59
  | 60 => y60
  | 61 => y61
  | 62 => y62
  | 63 => y63
  | 64 => y64
  | 65 => y65
  | 66 => y66
  | 67 => y67
  | 68 => y68
  | 69 => y69
  | 70 => y70
  | 71 => y71
  | 72 => y72
  | 73 => y73
  | 74 => y74
  | 75 => y75
  | 76 => y76
  | 77 => y77
  | 78 => y78
  | 79 => y79
  | 80 => y80
  | 81 => y81
  | 82 => y82
  | 83 => y83
  | 84 => y84
  | 85 => y85
  | 86 => y86
  | 87 => y87
  | 89 => y89
  | 90 => y90
  | 91 => y91
  | 92 => y92
  | 93 => y93
  | 94 => y94
  | 95 => y95
  | 96 => y96
  | 97 => y97
  | 98 => y98
  | 99 => y99
  | 100 => y100
  | 101 => y101
  | 102 => y102
  | 103 => y103
  | 104 => y104
  | 105 => y105
  | 107 => y107
  | 108 => y108
  | 109 => y109
  | 110 => y110
  | 111 => y111
  | 112 => y112
  | 113 => y113
  | 114 => y114
  | 115 => y115
  | 116 => y116
  | 117 => y117
  | 118 => y118
  | 119 => y119
  | 120 => y120
  | 121 => y121
  | 122 => y122
  | 123 => y123
  | 124 => y124
  | 125 => y125
  | 126 => y126
  | 127 => y127
  | 128 => y128
  | 129 => y129
  | 130 => y130
  | 131 => y131
  | 132 => y132
  | 133 => y133
  | 134 => y134
  | 135 => y135
  | 136 => y136
  | 137 => y137
  | _ => Ty.none
theorem ty_ok : ∀ t, (ty t).ok = true → OKt Try.prog t (ty t) := by
  intro t h
  unfold ty at h ⊢
  split at h
  · exact y1_ok
  · exact y2_ok
  · exact y3_ok
  · exact y4_ok
  · exact y5_ok
  · exact y6_ok
  · exact y7_ok
  · exact y8_ok
  · exact y9_ok
  · exact y10_ok
  · exact y11_ok
  · exact y12_ok
  · exact y13_ok
  · exact y14_ok
  · exact y15_ok
  · exact y16_ok
  · exact y17_ok
  · exact y18_ok
  · exact y19_ok
  · exact y21_ok
  · exact y22_ok
  · exact y23_ok
  · exact y24_ok
  · exact y25_ok
  · exact y26_ok
  · exact y27_ok
  · exact y28_ok
  · exact y29_ok
  · exact y31_ok
  · exact y33_ok
  · exact y34_ok
  · exact y35_ok
  · exact y36_ok
  · exact y37_ok
  · exact y38_ok
  · exact y39_ok
  · exact y40_ok
  · exact y41_ok
  · exact y42_ok
  · exact y43_ok
  · exact y44_ok
  · exact y45_ok
  · exact y46_ok
  · exact y47_ok
  · exact y48_ok
  · exact y49_ok
  · exact y50_ok
  · exact y52_ok
  · exact y53_ok
  · exact y54_ok
  · exact y55_ok
  · exact y56_ok
  · exact y57_ok
  · exact y59_ok
  · exact y60_ok
  · exact y61_ok
  · exact y62_ok
  · exact y63_ok
  · exact y64_ok
  · exact y65_ok
  · exact y66_ok
  · exact y67_ok
  · exact y68_ok
  · exact y69_ok
  · exact y70_ok
  · exact y71_ok
  · exact y72_ok
  · exact y73_ok
  · exact y74_ok
  · exact y75_ok
  · exact y76_ok
  · exact y77_ok
  · exact y78_ok
  · exact y79_ok
  · exact y80_ok
  · exact y81_ok
  · exact y82_ok
  · exact y83_ok
  · exact y84_ok
  · exact y85_ok
  · exact y86_ok
  · exact y87_ok
  · exact y89_ok
  · exact y90_ok
  · exact y91_ok
  · exact y92_ok
  · exact y93_ok
  · exact y94_ok
  · exact y95_ok
  · exact y96_ok
  · exact y97_ok
  · exact y98_ok
  · exact y99_ok
  · exact y100_ok
  · exact y101_ok
  · exact y102_ok
  · exact y103_ok
  · exact y104_ok
  · exact y105_ok
  · exact y107_ok
  · exact y108_ok
  · exact y109_ok
  · exact y110_ok
  · exact y111_ok
  · exact y112_ok
  · exact y113_ok
  · exact y114_ok
  · exact y115_ok
  · exact y116_ok
  · exact y117_ok
  · exact y118_ok
  · exact y119_ok
  · exact y120_ok
  · exact y121_ok
  · exact y122_ok
  · exact y123_ok
  · exact y124_ok
  · exact y125_ok
  · exact y126_ok
  · exact y127_ok
  · exact y128_ok
  · exact y129_ok
  · exact y130_ok
  · exact y131_ok
  · exact y132_ok
  · exact y133_ok
  · exact y134_ok
  · exact y135_ok
  · exact y136_ok
  · exact y137_ok
  · cases h
noncomputable def C : Ctx := ⟨Try.prog, ty, ty_ok⟩
theorem C_P : C.P = Try.prog := rfl
theorem mixed : C.P.follows .mixedOrders = true := by kernel_rfl
@[go_sem] theorem t1ok : (C.ty 1).ok = true := rfl
@[go_sem] theorem t1size : (C.ty 1).size = 1 := rfl
@[go_sem] theorem t1bytes : (C.ty 1).bytes = 8 := rfl
@[go_sem] theorem t1agg : (C.ty 1).agg = false := rfl
@[go_sem] theorem t2ok : (C.ty 2).ok = true := rfl
@[go_sem] theorem t2size : (C.ty 2).size = 1 := rfl
@[go_sem] theorem t2bytes : (C.ty 2).bytes = 8 := rfl
@[go_sem] theorem t2agg : (C.ty 2).agg = false := rfl
@[go_sem] theorem t2ik : (C.ty 2).ik = some .i64 := rfl
@[go_sem] theorem t2z : zsOf (C.ty 2) = ((.int .i64 0) : Value).cells.toList.map cv1 := rfl
@[go_sem] theorem t3ok : (C.ty 3).ok = true := rfl
@[go_sem] theorem t3size : (C.ty 3).size = 1 := rfl
@[go_sem] theorem t3bytes : (C.ty 3).bytes = 8 := rfl
@[go_sem] theorem t3agg : (C.ty 3).agg = false := rfl
@[go_sem] theorem t3ik : (C.ty 3).ik = some .i64 := rfl
@[go_sem] theorem t3z : zsOf (C.ty 3) = ((.int .i64 0) : Value).cells.toList.map cv1 := rfl
@[go_sem] theorem t4ok : (C.ty 4).ok = true := rfl
@[go_sem] theorem t4size : (C.ty 4).size = 1 := rfl
@[go_sem] theorem t4bytes : (C.ty 4).bytes = 1 := rfl
@[go_sem] theorem t4agg : (C.ty 4).agg = false := rfl
@[go_sem] theorem t4bl : (C.ty 4).bl = true := rfl
@[go_sem] theorem t4z : zsOf (C.ty 4) = ((.bool false) : Value).cells.toList.map cv1 := rfl
@[go_sem] theorem t5ok : (C.ty 5).ok = true := rfl
@[go_sem] theorem t5size : (C.ty 5).size = 1 := rfl
@[go_sem] theorem t5bytes : (C.ty 5).bytes = 1 := rfl
@[go_sem] theorem t5agg : (C.ty 5).agg = false := rfl
@[go_sem] theorem t5ik : (C.ty 5).ik = some .u8 := rfl
@[go_sem] theorem t5z : zsOf (C.ty 5) = ((.int .u8 0) : Value).cells.toList.map cv1 := rfl
@[go_sem] theorem t6ok : (C.ty 6).ok = true := rfl
@[go_sem] theorem t6size : (C.ty 6).size = 1 := rfl
@[go_sem] theorem t6bytes : (C.ty 6).bytes = 1 := rfl
@[go_sem] theorem t6agg : (C.ty 6).agg = false := rfl
@[go_sem] theorem t6ik : (C.ty 6).ik = some .u8 := rfl
@[go_sem] theorem t6z : zsOf (C.ty 6) = ((.int .u8 0) : Value).cells.toList.map cv1 := rfl
@[go_sem] theorem t7ok : (C.ty 7).ok = true := rfl
@[go_sem] theorem t7size : (C.ty 7).size = 4 := rfl
@[go_sem] theorem t7bytes : (C.ty 7).bytes = 24 := rfl
@[go_sem] theorem t7agg : (C.ty 7).agg = true := rfl
@[go_sem] theorem t7fs : (C.ty 7).fs = [(0, 2), (1, 3), (2, 4), (3, 6)] := rfl
@[go_sem] theorem t7z : zsOf (C.ty 7) = ((.agg #[(.int .i64 0), (.int .i64 0), (.bool false), (.int .u8 0)]) : Value).cells.toList.map cv1 := rfl
@[go_sem] theorem t8ok : (C.ty 8).ok = true := rfl
@[go_sem] theorem t8size : (C.ty 8).size = 4 := rfl
@[go_sem] theorem t8bytes : (C.ty 8).bytes = 24 := rfl
@[go_sem] theorem t8agg : (C.ty 8).agg = true := rfl
@[go_sem] theorem t8fs : (C.ty 8).fs = [(0, 2), (1, 3), (2, 4), (3, 6)] := rfl
@[go_sem] theorem t8z : zsOf (C.ty 8) = ((.agg #[(.int .i64 0), (.int .i64 0), (.bool false), (.int .u8 0)]) : Value).cells.toList.map cv1 := rfl
@[go_sem] theorem t9ok : (C.ty 9).ok = true := rfl
@[go_sem] theorem t9size : (C.ty 9).size = 1 := rfl
@[go_sem] theorem t9bytes : (C.ty 9).bytes = 16 := rfl
@[go_sem] theorem t9agg : (C.ty 9).agg = false := rfl
@[go_sem] theorem t9str : (C.ty 9).str = true := rfl
@[go_sem] theorem t9z : zsOf (C.ty 9) = ((.string ⟨#[]⟩) : Value).cells.toList.map cv1 := rfl
@[go_sem] theorem t10ok : (C.ty 10).ok = true := rfl
@[go_sem] theorem t10size : (C.ty 10).size = 1 := rfl
@[go_sem] theorem t10bytes : (C.ty 10).bytes = 16 := rfl
@[go_sem] theorem t10agg : (C.ty 10).agg = false := rfl
@[go_sem] theorem t10str : (C.ty 10).str = true := rfl
@[go_sem] theorem t10z : zsOf (C.ty 10) = ((.string ⟨#[]⟩) : Value).cells.toList.map cv1 := rfl
@[go_sem] theorem t11ok : (C.ty 11).ok = true := rfl
@[go_sem] theorem t11size : (C.ty 11).size = 1 := rfl
@[go_sem] theorem t11bytes : (C.ty 11).bytes = 16 := rfl
@[go_sem] theorem t11agg : (C.ty 11).agg = false := rfl
@[go_sem] theorem t11str : (C.ty 11).str = true := rfl
@[go_sem] theorem t11z : zsOf (C.ty 11) = ((.string ⟨#[]⟩) : Value).cells.toList.map cv1 := rfl
@[go_sem] theorem t12ok : (C.ty 12).ok = true := rfl
@[go_sem] theorem t12size : (C.ty 12).size = 1 := rfl
@[go_sem] theorem t12bytes : (C.ty 12).bytes = 8 := rfl
@[go_sem] theorem t12agg : (C.ty 12).agg = false := rfl
@[go_sem] theorem t12ik : (C.ty 12).ik = some .u64 := rfl
@[go_sem] theorem t12z : zsOf (C.ty 12) = ((.int .u64 0) : Value).cells.toList.map cv1 := rfl
@[go_sem] theorem t13ok : (C.ty 13).ok = true := rfl
@[go_sem] theorem t13size : (C.ty 13).size = 2 := rfl
@[go_sem] theorem t13bytes : (C.ty 13).bytes = 24 := rfl
@[go_sem] theorem t13agg : (C.ty 13).agg = true := rfl
@[go_sem] theorem t13fs : (C.ty 13).fs = [(0, 9), (1, 12)] := rfl
@[go_sem] theorem t13z : zsOf (C.ty 13) = ((.agg #[(.string ⟨#[]⟩), (.int .u64 0)]) : Value).cells.toList.map cv1 := rfl
@[go_sem] theorem t14ok : (C.ty 14).ok = true := rfl
@[go_sem] theorem t14size : (C.ty 14).size = 2 := rfl
@[go_sem] theorem t14bytes : (C.ty 14).bytes = 24 := rfl
@[go_sem] theorem t14agg : (C.ty 14).agg = true := rfl
@[go_sem] theorem t14fs : (C.ty 14).fs = [(0, 9), (1, 12)] := rfl
@[go_sem] theorem t14z : zsOf (C.ty 14) = ((.agg #[(.string ⟨#[]⟩), (.int .u64 0)]) : Value).cells.toList.map cv1 := rfl
@[go_sem] theorem t15ok : (C.ty 15).ok = true := rfl
@[go_sem] theorem t15size : (C.ty 15).size = 1 := rfl
@[go_sem] theorem t15bytes : (C.ty 15).bytes = 8 := rfl
@[go_sem] theorem t15agg : (C.ty 15).agg = false := rfl
@[go_sem] theorem t15z : zsOf (C.ty 15) = ((.pointer none) : Value).cells.toList.map cv1 := rfl
@[go_sem] theorem t16ok : (C.ty 16).ok = true := rfl
@[go_sem] theorem t16size : (C.ty 16).size = 1 := rfl
@[go_sem] theorem t16bytes : (C.ty 16).bytes = 8 := rfl
@[go_sem] theorem t16agg : (C.ty 16).agg = false := rfl
@[go_sem] theorem t16z : zsOf (C.ty 16) = ((.pointer none) : Value).cells.toList.map cv1 := rfl
@[go_sem] theorem t17ok : (C.ty 17).ok = true := rfl
@[go_sem] theorem t17size : (C.ty 17).size = 1 := rfl
@[go_sem] theorem t17bytes : (C.ty 17).bytes = 8 := rfl
@[go_sem] theorem t17agg : (C.ty 17).agg = false := rfl
@[go_sem] theorem t17z : zsOf (C.ty 17) = ((.pointer none) : Value).cells.toList.map cv1 := rfl
@[go_sem] theorem t18ok : (C.ty 18).ok = true := rfl
@[go_sem] theorem t18size : (C.ty 18).size = 1 := rfl
@[go_sem] theorem t18bytes : (C.ty 18).bytes = 8 := rfl
@[go_sem] theorem t18agg : (C.ty 18).agg = true := rfl
@[go_sem] theorem t18fs : (C.ty 18).fs = [(0, 17)] := rfl
@[go_sem] theorem t18z : zsOf (C.ty 18) = ((.agg #[(.pointer none)]) : Value).cells.toList.map cv1 := rfl
@[go_sem] theorem t19ok : (C.ty 19).ok = true := rfl
@[go_sem] theorem t19size : (C.ty 19).size = 1 := rfl
@[go_sem] theorem t19bytes : (C.ty 19).bytes = 8 := rfl
@[go_sem] theorem t19agg : (C.ty 19).agg = true := rfl
@[go_sem] theorem t19fs : (C.ty 19).fs = [(0, 17)] := rfl
@[go_sem] theorem t19z : zsOf (C.ty 19) = ((.agg #[(.pointer none)]) : Value).cells.toList.map cv1 := rfl
@[go_sem] theorem t21ok : (C.ty 21).ok = true := rfl
@[go_sem] theorem t21size : (C.ty 21).size = 1 := rfl
@[go_sem] theorem t21bytes : (C.ty 21).bytes = 4 := rfl
@[go_sem] theorem t21agg : (C.ty 21).agg = false := rfl
@[go_sem] theorem t21ik : (C.ty 21).ik = some .i32 := rfl
@[go_sem] theorem t21z : zsOf (C.ty 21) = ((.int .i32 0) : Value).cells.toList.map cv1 := rfl
@[go_sem] theorem t22ok : (C.ty 22).ok = true := rfl
@[go_sem] theorem t22size : (C.ty 22).size = 1 := rfl
@[go_sem] theorem t22bytes : (C.ty 22).bytes = 8 := rfl
@[go_sem] theorem t22agg : (C.ty 22).agg = false := rfl
@[go_sem] theorem t22ik : (C.ty 22).ik = some .i64 := rfl
@[go_sem] theorem t22z : zsOf (C.ty 22) = ((.int .i64 0) : Value).cells.toList.map cv1 := rfl
@[go_sem] theorem t23ok : (C.ty 23).ok = true := rfl
@[go_sem] theorem t23size : (C.ty 23).size = 1 := rfl
@[go_sem] theorem t23bytes : (C.ty 23).bytes = 24 := rfl
@[go_sem] theorem t23agg : (C.ty 23).agg = false := rfl
@[go_sem] theorem t23sl : (C.ty 23).sl = some 3 := rfl
@[go_sem] theorem t23z : zsOf (C.ty 23) = ((.slice none 0 0) : Value).cells.toList.map cv1 := rfl
@[go_sem] theorem t24ok : (C.ty 24).ok = true := rfl
@[go_sem] theorem t24size : (C.ty 24).size = 3 := rfl
@[go_sem] theorem t24bytes : (C.ty 24).bytes = 56 := rfl
@[go_sem] theorem t24agg : (C.ty 24).agg = true := rfl
@[go_sem] theorem t24fs : (C.ty 24).fs = [(0, 22), (1, 23), (2, 23)] := rfl
@[go_sem] theorem t24z : zsOf (C.ty 24) = ((.agg #[(.int .i64 0), (.slice none 0 0), (.slice none 0 0)]) : Value).cells.toList.map cv1 := rfl
@[go_sem] theorem t25ok : (C.ty 25).ok = true := rfl
@[go_sem] theorem t25size : (C.ty 25).size = 3 := rfl
@[go_sem] theorem t25bytes : (C.ty 25).bytes = 56 := rfl
@[go_sem] theorem t25agg : (C.ty 25).agg = true := rfl
@[go_sem] theorem t25fs : (C.ty 25).fs = [(0, 22), (1, 23), (2, 23)] := rfl
@[go_sem] theorem t25z : zsOf (C.ty 25) = ((.agg #[(.int .i64 0), (.slice none 0 0), (.slice none 0 0)]) : Value).cells.toList.map cv1 := rfl
@[go_sem] theorem t26ok : (C.ty 26).ok = true := rfl
@[go_sem] theorem t26size : (C.ty 26).size = 1 := rfl
@[go_sem] theorem t26bytes : (C.ty 26).bytes = 24 := rfl
@[go_sem] theorem t26agg : (C.ty 26).agg = false := rfl
@[go_sem] theorem t26sl : (C.ty 26).sl = some 28 := rfl
@[go_sem] theorem t26z : zsOf (C.ty 26) = ((.slice none 0 0) : Value).cells.toList.map cv1 := rfl
@[go_sem] theorem t27ok : (C.ty 27).ok = true := rfl
@[go_sem] theorem t27size : (C.ty 27).size = 1 := rfl
@[go_sem] theorem t27bytes : (C.ty 27).bytes = 8 := rfl
@[go_sem] theorem t27agg : (C.ty 27).agg = false := rfl
@[go_sem] theorem t28ok : (C.ty 28).ok = true := rfl
@[go_sem] theorem t28size : (C.ty 28).size = 1 := rfl
@[go_sem] theorem t28bytes : (C.ty 28).bytes = 24 := rfl
@[go_sem] theorem t28agg : (C.ty 28).agg = false := rfl
@[go_sem] theorem t28sl : (C.ty 28).sl = some 3 := rfl
@[go_sem] theorem t28z : zsOf (C.ty 28) = ((.slice none 0 0) : Value).cells.toList.map cv1 := rfl
@[go_sem] theorem t29ok : (C.ty 29).ok = true := rfl
@[go_sem] theorem t29size : (C.ty 29).size = 1 := rfl
@[go_sem] theorem t29bytes : (C.ty 29).bytes = 8 := rfl
@[go_sem] theorem t29agg : (C.ty 29).agg = false := rfl
@[go_sem] theorem t29ik : (C.ty 29).ik = some .i64 := rfl
@[go_sem] theorem t29z : zsOf (C.ty 29) = ((.int .i64 0) : Value).cells.toList.map cv1 := rfl
@[go_sem] theorem t31ok : (C.ty 31).ok = true := rfl
@[go_sem] theorem t31size : (C.ty 31).size = 1 := rfl
@[go_sem] theorem t31bytes : (C.ty 31).bytes = 8 := rfl
@[go_sem] theorem t31agg : (C.ty 31).agg = false := rfl
@[go_sem] theorem t33ok : (C.ty 33).ok = true := rfl
@[go_sem] theorem t33size : (C.ty 33).size = 1 := rfl
@[go_sem] theorem t33bytes : (C.ty 33).bytes = 8 := rfl
@[go_sem] theorem t33agg : (C.ty 33).agg = false := rfl
@[go_sem] theorem t34ok : (C.ty 34).ok = true := rfl
@[go_sem] theorem t34size : (C.ty 34).size = 1 := rfl
@[go_sem] theorem t34bytes : (C.ty 34).bytes = 24 := rfl
@[go_sem] theorem t34agg : (C.ty 34).agg = false := rfl
@[go_sem] theorem t34sl : (C.ty 34).sl = some 23 := rfl
@[go_sem] theorem t34z : zsOf (C.ty 34) = ((.slice none 0 0) : Value).cells.toList.map cv1 := rfl
@[go_sem] theorem t35ok : (C.ty 35).ok = true := rfl
@[go_sem] theorem t35size : (C.ty 35).size = 1 := rfl
@[go_sem] theorem t35bytes : (C.ty 35).bytes = 8 := rfl
@[go_sem] theorem t35agg : (C.ty 35).agg = false := rfl
@[go_sem] theorem t36ok : (C.ty 36).ok = true := rfl
@[go_sem] theorem t36size : (C.ty 36).size = 1 := rfl
@[go_sem] theorem t36bytes : (C.ty 36).bytes = 8 := rfl
@[go_sem] theorem t36agg : (C.ty 36).agg = false := rfl
@[go_sem] theorem t37ok : (C.ty 37).ok = true := rfl
@[go_sem] theorem t37size : (C.ty 37).size = 1 := rfl
@[go_sem] theorem t37bytes : (C.ty 37).bytes = 8 := rfl
@[go_sem] theorem t37agg : (C.ty 37).agg = false := rfl
@[go_sem] theorem t38ok : (C.ty 38).ok = true := rfl
@[go_sem] theorem t38size : (C.ty 38).size = 1 := rfl
@[go_sem] theorem t38bytes : (C.ty 38).bytes = 8 := rfl
@[go_sem] theorem t38agg : (C.ty 38).agg = false := rfl
@[go_sem] theorem t39ok : (C.ty 39).ok = true := rfl
@[go_sem] theorem t39size : (C.ty 39).size = 1 := rfl
@[go_sem] theorem t39bytes : (C.ty 39).bytes = 8 := rfl
@[go_sem] theorem t39agg : (C.ty 39).agg = false := rfl
@[go_sem] theorem t40ok : (C.ty 40).ok = true := rfl
@[go_sem] theorem t40size : (C.ty 40).size = 1 := rfl
@[go_sem] theorem t40bytes : (C.ty 40).bytes = 8 := rfl
@[go_sem] theorem t40agg : (C.ty 40).agg = false := rfl
@[go_sem] theorem t41ok : (C.ty 41).ok = true := rfl
@[go_sem] theorem t41size : (C.ty 41).size = 1 := rfl
@[go_sem] theorem t41bytes : (C.ty 41).bytes = 8 := rfl
@[go_sem] theorem t41agg : (C.ty 41).agg = false := rfl
@[go_sem] theorem t42ok : (C.ty 42).ok = true := rfl
@[go_sem] theorem t42size : (C.ty 42).size = 1 := rfl
@[go_sem] theorem t42bytes : (C.ty 42).bytes = 8 := rfl
@[go_sem] theorem t42agg : (C.ty 42).agg = false := rfl
@[go_sem] theorem t43ok : (C.ty 43).ok = true := rfl
@[go_sem] theorem t43size : (C.ty 43).size = 1 := rfl
@[go_sem] theorem t43bytes : (C.ty 43).bytes = 8 := rfl
@[go_sem] theorem t43agg : (C.ty 43).agg = false := rfl
@[go_sem] theorem t44ok : (C.ty 44).ok = true := rfl
@[go_sem] theorem t44size : (C.ty 44).size = 1 := rfl
@[go_sem] theorem t44bytes : (C.ty 44).bytes = 8 := rfl
@[go_sem] theorem t44agg : (C.ty 44).agg = false := rfl
@[go_sem] theorem t45ok : (C.ty 45).ok = true := rfl
@[go_sem] theorem t45size : (C.ty 45).size = 1 := rfl
@[go_sem] theorem t45bytes : (C.ty 45).bytes = 8 := rfl
@[go_sem] theorem t45agg : (C.ty 45).agg = false := rfl
@[go_sem] theorem t46ok : (C.ty 46).ok = true := rfl
@[go_sem] theorem t46size : (C.ty 46).size = 1 := rfl
@[go_sem] theorem t46bytes : (C.ty 46).bytes = 8 := rfl
@[go_sem] theorem t46agg : (C.ty 46).agg = false := rfl
@[go_sem] theorem t47ok : (C.ty 47).ok = true := rfl
@[go_sem] theorem t47size : (C.ty 47).size = 1 := rfl
@[go_sem] theorem t47bytes : (C.ty 47).bytes = 8 := rfl
@[go_sem] theorem t47agg : (C.ty 47).agg = false := rfl
@[go_sem] theorem t48ok : (C.ty 48).ok = true := rfl
@[go_sem] theorem t48size : (C.ty 48).size = 1 := rfl
@[go_sem] theorem t48bytes : (C.ty 48).bytes = 8 := rfl
@[go_sem] theorem t48agg : (C.ty 48).agg = false := rfl
@[go_sem] theorem t49ok : (C.ty 49).ok = true := rfl
@[go_sem] theorem t49size : (C.ty 49).size = 1 := rfl
@[go_sem] theorem t49bytes : (C.ty 49).bytes = 8 := rfl
@[go_sem] theorem t49agg : (C.ty 49).agg = false := rfl
@[go_sem] theorem t50ok : (C.ty 50).ok = true := rfl
@[go_sem] theorem t50size : (C.ty 50).size = 1 := rfl
@[go_sem] theorem t50bytes : (C.ty 50).bytes = 8 := rfl
@[go_sem] theorem t50agg : (C.ty 50).agg = false := rfl
@[go_sem] theorem t52ok : (C.ty 52).ok = true := rfl
@[go_sem] theorem t52size : (C.ty 52).size = 1 := rfl
@[go_sem] theorem t52bytes : (C.ty 52).bytes = 8 := rfl
@[go_sem] theorem t52agg : (C.ty 52).agg = false := rfl
@[go_sem] theorem t53ok : (C.ty 53).ok = true := rfl
@[go_sem] theorem t53size : (C.ty 53).size = 1 := rfl
@[go_sem] theorem t53bytes : (C.ty 53).bytes = 8 := rfl
@[go_sem] theorem t53agg : (C.ty 53).agg = false := rfl
@[go_sem] theorem t54ok : (C.ty 54).ok = true := rfl
@[go_sem] theorem t54size : (C.ty 54).size = 1 := rfl
@[go_sem] theorem t54bytes : (C.ty 54).bytes = 8 := rfl
@[go_sem] theorem t54agg : (C.ty 54).agg = false := rfl
@[go_sem] theorem t55ok : (C.ty 55).ok = true := rfl
@[go_sem] theorem t55size : (C.ty 55).size = 1 := rfl
@[go_sem] theorem t55bytes : (C.ty 55).bytes = 8 := rfl
@[go_sem] theorem t55agg : (C.ty 55).agg = false := rfl
@[go_sem] theorem t56ok : (C.ty 56).ok = true := rfl
@[go_sem] theorem t56size : (C.ty 56).size = 8 := rfl
@[go_sem] theorem t56bytes : (C.ty 56).bytes = 72 := rfl
@[go_sem] theorem t56agg : (C.ty 56).agg = true := rfl
@[go_sem] theorem t56fs : (C.ty 56).fs = [(0, 22), (1, 9), (2, 3), (3, 3), (4, 3), (5, 3), (6, 55), (7, 3)] := rfl
@[go_sem] theorem t56z : zsOf (C.ty 56) = ((.agg #[(.int .i64 0), (.string ⟨#[]⟩), (.int .i64 0), (.int .i64 0), (.int .i64 0), (.int .i64 0), .nilFunc, (.int .i64 0)]) : Value).cells.toList.map cv1 := rfl
@[go_sem] theorem t57ok : (C.ty 57).ok = true := rfl
@[go_sem] theorem t57size : (C.ty 57).size = 8 := rfl
@[go_sem] theorem t57bytes : (C.ty 57).bytes = 72 := rfl
@[go_sem] theorem t57agg : (C.ty 57).agg = true := rfl
@[go_sem] theorem t57fs : (C.ty 57).fs = [(0, 22), (1, 9), (2, 3), (3, 3), (4, 3), (5, 3), (6, 55), (7, 3)] := rfl
@[go_sem] theorem t57z : zsOf (C.ty 57) = ((.agg #[(.int .i64 0), (.string ⟨#[]⟩), (.int .i64 0), (.int .i64 0), (.int .i64 0), (.int .i64 0), .nilFunc, (.int .i64 0)]) : Value).cells.toList.map cv1 := rfl
@[go_sem] theorem t59ok : (C.ty 59).ok = true := rfl
@[go_sem] theorem t59size : (C.ty 59).size = 1 := rfl
@[go_sem] theorem t59bytes : (C.ty 59).bytes = 8 := rfl
@[go_sem] theorem t59agg : (C.ty 59).agg = false := rfl
@[go_sem] theorem t60ok : (C.ty 60).ok = true := rfl
@[go_sem] theorem t60size : (C.ty 60).size = 1 := rfl
@[go_sem] theorem t60bytes : (C.ty 60).bytes = 8 := rfl
@[go_sem] theorem t60agg : (C.ty 60).agg = false := rfl
@[go_sem] theorem t61ok : (C.ty 61).ok = true := rfl
@[go_sem] theorem t61size : (C.ty 61).size = 1 := rfl
@[go_sem] theorem t61bytes : (C.ty 61).bytes = 8 := rfl
@[go_sem] theorem t61agg : (C.ty 61).agg = false := rfl
@[go_sem] theorem t62ok : (C.ty 62).ok = true := rfl
@[go_sem] theorem t62size : (C.ty 62).size = 1 := rfl
@[go_sem] theorem t62bytes : (C.ty 62).bytes = 8 := rfl
@[go_sem] theorem t62agg : (C.ty 62).agg = false := rfl
@[go_sem] theorem t63ok : (C.ty 63).ok = true := rfl
@[go_sem] theorem t63size : (C.ty 63).size = 1 := rfl
@[go_sem] theorem t63bytes : (C.ty 63).bytes = 8 := rfl
@[go_sem] theorem t63agg : (C.ty 63).agg = false := rfl
@[go_sem] theorem t64ok : (C.ty 64).ok = true := rfl
@[go_sem] theorem t64size : (C.ty 64).size = 1 := rfl
@[go_sem] theorem t64bytes : (C.ty 64).bytes = 8 := rfl
@[go_sem] theorem t64agg : (C.ty 64).agg = false := rfl
@[go_sem] theorem t65ok : (C.ty 65).ok = true := rfl
@[go_sem] theorem t65size : (C.ty 65).size = 1 := rfl
@[go_sem] theorem t65bytes : (C.ty 65).bytes = 8 := rfl
@[go_sem] theorem t65agg : (C.ty 65).agg = false := rfl
@[go_sem] theorem t66ok : (C.ty 66).ok = true := rfl
@[go_sem] theorem t66size : (C.ty 66).size = 1 := rfl
@[go_sem] theorem t66bytes : (C.ty 66).bytes = 8 := rfl
@[go_sem] theorem t66agg : (C.ty 66).agg = false := rfl
@[go_sem] theorem t67ok : (C.ty 67).ok = true := rfl
@[go_sem] theorem t67size : (C.ty 67).size = 1 := rfl
@[go_sem] theorem t67bytes : (C.ty 67).bytes = 8 := rfl
@[go_sem] theorem t67agg : (C.ty 67).agg = false := rfl
@[go_sem] theorem t68ok : (C.ty 68).ok = true := rfl
@[go_sem] theorem t68size : (C.ty 68).size = 1 := rfl
@[go_sem] theorem t68bytes : (C.ty 68).bytes = 8 := rfl
@[go_sem] theorem t68agg : (C.ty 68).agg = false := rfl
@[go_sem] theorem t69ok : (C.ty 69).ok = true := rfl
@[go_sem] theorem t69size : (C.ty 69).size = 1 := rfl
@[go_sem] theorem t69bytes : (C.ty 69).bytes = 8 := rfl
@[go_sem] theorem t69agg : (C.ty 69).agg = false := rfl
@[go_sem] theorem t70ok : (C.ty 70).ok = true := rfl
@[go_sem] theorem t70size : (C.ty 70).size = 1 := rfl
@[go_sem] theorem t70bytes : (C.ty 70).bytes = 8 := rfl
@[go_sem] theorem t70agg : (C.ty 70).agg = false := rfl
@[go_sem] theorem t71ok : (C.ty 71).ok = true := rfl
@[go_sem] theorem t71size : (C.ty 71).size = 1 := rfl
@[go_sem] theorem t71bytes : (C.ty 71).bytes = 8 := rfl
@[go_sem] theorem t71agg : (C.ty 71).agg = false := rfl
@[go_sem] theorem t72ok : (C.ty 72).ok = true := rfl
@[go_sem] theorem t72size : (C.ty 72).size = 1 := rfl
@[go_sem] theorem t72bytes : (C.ty 72).bytes = 8 := rfl
@[go_sem] theorem t72agg : (C.ty 72).agg = false := rfl
@[go_sem] theorem t73ok : (C.ty 73).ok = true := rfl
@[go_sem] theorem t73size : (C.ty 73).size = 1 := rfl
@[go_sem] theorem t73bytes : (C.ty 73).bytes = 8 := rfl
@[go_sem] theorem t73agg : (C.ty 73).agg = false := rfl
@[go_sem] theorem t74ok : (C.ty 74).ok = true := rfl
@[go_sem] theorem t74size : (C.ty 74).size = 1 := rfl
@[go_sem] theorem t74bytes : (C.ty 74).bytes = 8 := rfl
@[go_sem] theorem t74agg : (C.ty 74).agg = false := rfl
@[go_sem] theorem t75ok : (C.ty 75).ok = true := rfl
@[go_sem] theorem t75size : (C.ty 75).size = 1 := rfl
@[go_sem] theorem t75bytes : (C.ty 75).bytes = 8 := rfl
@[go_sem] theorem t75agg : (C.ty 75).agg = false := rfl
@[go_sem] theorem t76ok : (C.ty 76).ok = true := rfl
@[go_sem] theorem t76size : (C.ty 76).size = 1 := rfl
@[go_sem] theorem t76bytes : (C.ty 76).bytes = 8 := rfl
@[go_sem] theorem t76agg : (C.ty 76).agg = false := rfl
@[go_sem] theorem t77ok : (C.ty 77).ok = true := rfl
@[go_sem] theorem t77size : (C.ty 77).size = 1 := rfl
@[go_sem] theorem t77bytes : (C.ty 77).bytes = 8 := rfl
@[go_sem] theorem t77agg : (C.ty 77).agg = false := rfl
@[go_sem] theorem t78ok : (C.ty 78).ok = true := rfl
@[go_sem] theorem t78size : (C.ty 78).size = 1 := rfl
@[go_sem] theorem t78bytes : (C.ty 78).bytes = 8 := rfl
@[go_sem] theorem t78agg : (C.ty 78).agg = false := rfl
@[go_sem] theorem t79ok : (C.ty 79).ok = true := rfl
@[go_sem] theorem t79size : (C.ty 79).size = 1 := rfl
@[go_sem] theorem t79bytes : (C.ty 79).bytes = 8 := rfl
@[go_sem] theorem t79agg : (C.ty 79).agg = false := rfl
@[go_sem] theorem t80ok : (C.ty 80).ok = true := rfl
@[go_sem] theorem t80size : (C.ty 80).size = 1 := rfl
@[go_sem] theorem t80bytes : (C.ty 80).bytes = 8 := rfl
@[go_sem] theorem t80agg : (C.ty 80).agg = false := rfl
@[go_sem] theorem t81ok : (C.ty 81).ok = true := rfl
@[go_sem] theorem t81size : (C.ty 81).size = 1 := rfl
@[go_sem] theorem t81bytes : (C.ty 81).bytes = 8 := rfl
@[go_sem] theorem t81agg : (C.ty 81).agg = false := rfl
@[go_sem] theorem t82ok : (C.ty 82).ok = true := rfl
@[go_sem] theorem t82size : (C.ty 82).size = 1 := rfl
@[go_sem] theorem t82bytes : (C.ty 82).bytes = 8 := rfl
@[go_sem] theorem t82agg : (C.ty 82).agg = false := rfl
@[go_sem] theorem t83ok : (C.ty 83).ok = true := rfl
@[go_sem] theorem t83size : (C.ty 83).size = 1 := rfl
@[go_sem] theorem t83bytes : (C.ty 83).bytes = 8 := rfl
@[go_sem] theorem t83agg : (C.ty 83).agg = false := rfl
@[go_sem] theorem t84ok : (C.ty 84).ok = true := rfl
@[go_sem] theorem t84size : (C.ty 84).size = 1 := rfl
@[go_sem] theorem t84bytes : (C.ty 84).bytes = 8 := rfl
@[go_sem] theorem t84agg : (C.ty 84).agg = false := rfl
@[go_sem] theorem t85ok : (C.ty 85).ok = true := rfl
@[go_sem] theorem t85size : (C.ty 85).size = 1 := rfl
@[go_sem] theorem t85bytes : (C.ty 85).bytes = 8 := rfl
@[go_sem] theorem t85agg : (C.ty 85).agg = false := rfl
@[go_sem] theorem t86ok : (C.ty 86).ok = true := rfl
@[go_sem] theorem t86size : (C.ty 86).size = 1 := rfl
@[go_sem] theorem t86bytes : (C.ty 86).bytes = 8 := rfl
@[go_sem] theorem t86agg : (C.ty 86).agg = false := rfl
@[go_sem] theorem t87ok : (C.ty 87).ok = true := rfl
@[go_sem] theorem t87size : (C.ty 87).size = 1 := rfl
@[go_sem] theorem t87bytes : (C.ty 87).bytes = 8 := rfl
@[go_sem] theorem t87agg : (C.ty 87).agg = false := rfl
@[go_sem] theorem t89ok : (C.ty 89).ok = true := rfl
@[go_sem] theorem t89size : (C.ty 89).size = 1 := rfl
@[go_sem] theorem t89bytes : (C.ty 89).bytes = 8 := rfl
@[go_sem] theorem t89agg : (C.ty 89).agg = false := rfl
@[go_sem] theorem t90ok : (C.ty 90).ok = true := rfl
@[go_sem] theorem t90size : (C.ty 90).size = 1 := rfl
@[go_sem] theorem t90bytes : (C.ty 90).bytes = 8 := rfl
@[go_sem] theorem t90agg : (C.ty 90).agg = false := rfl
@[go_sem] theorem t91ok : (C.ty 91).ok = true := rfl
@[go_sem] theorem t91size : (C.ty 91).size = 1 := rfl
@[go_sem] theorem t91bytes : (C.ty 91).bytes = 24 := rfl
@[go_sem] theorem t91agg : (C.ty 91).agg = false := rfl
@[go_sem] theorem t91sl : (C.ty 91).sl = some 57 := rfl
@[go_sem] theorem t91z : zsOf (C.ty 91) = ((.slice none 0 0) : Value).cells.toList.map cv1 := rfl
@[go_sem] theorem t92ok : (C.ty 92).ok = true := rfl
@[go_sem] theorem t92size : (C.ty 92).size = 1 := rfl
@[go_sem] theorem t92bytes : (C.ty 92).bytes = 8 := rfl
@[go_sem] theorem t92agg : (C.ty 92).agg = false := rfl
@[go_sem] theorem t93ok : (C.ty 93).ok = true := rfl
@[go_sem] theorem t93size : (C.ty 93).size = 1 := rfl
@[go_sem] theorem t93bytes : (C.ty 93).bytes = 8 := rfl
@[go_sem] theorem t93agg : (C.ty 93).agg = false := rfl
@[go_sem] theorem t94ok : (C.ty 94).ok = true := rfl
@[go_sem] theorem t94size : (C.ty 94).size = 1 := rfl
@[go_sem] theorem t94bytes : (C.ty 94).bytes = 8 := rfl
@[go_sem] theorem t94agg : (C.ty 94).agg = false := rfl
@[go_sem] theorem t95ok : (C.ty 95).ok = true := rfl
@[go_sem] theorem t95size : (C.ty 95).size = 1 := rfl
@[go_sem] theorem t95bytes : (C.ty 95).bytes = 8 := rfl
@[go_sem] theorem t95agg : (C.ty 95).agg = false := rfl
@[go_sem] theorem t96ok : (C.ty 96).ok = true := rfl
@[go_sem] theorem t96size : (C.ty 96).size = 1 := rfl
@[go_sem] theorem t96bytes : (C.ty 96).bytes = 8 := rfl
@[go_sem] theorem t96agg : (C.ty 96).agg = false := rfl
@[go_sem] theorem t97ok : (C.ty 97).ok = true := rfl
@[go_sem] theorem t97size : (C.ty 97).size = 1 := rfl
@[go_sem] theorem t97bytes : (C.ty 97).bytes = 8 := rfl
@[go_sem] theorem t97agg : (C.ty 97).agg = false := rfl
@[go_sem] theorem t98ok : (C.ty 98).ok = true := rfl
@[go_sem] theorem t98size : (C.ty 98).size = 1 := rfl
@[go_sem] theorem t98bytes : (C.ty 98).bytes = 8 := rfl
@[go_sem] theorem t98agg : (C.ty 98).agg = false := rfl
@[go_sem] theorem t99ok : (C.ty 99).ok = true := rfl
@[go_sem] theorem t99size : (C.ty 99).size = 1 := rfl
@[go_sem] theorem t99bytes : (C.ty 99).bytes = 8 := rfl
@[go_sem] theorem t99agg : (C.ty 99).agg = false := rfl
@[go_sem] theorem t100ok : (C.ty 100).ok = true := rfl
@[go_sem] theorem t100size : (C.ty 100).size = 1 := rfl
@[go_sem] theorem t100bytes : (C.ty 100).bytes = 8 := rfl
@[go_sem] theorem t100agg : (C.ty 100).agg = false := rfl
@[go_sem] theorem t101ok : (C.ty 101).ok = true := rfl
@[go_sem] theorem t101size : (C.ty 101).size = 1 := rfl
@[go_sem] theorem t101bytes : (C.ty 101).bytes = 8 := rfl
@[go_sem] theorem t101agg : (C.ty 101).agg = false := rfl
@[go_sem] theorem t102ok : (C.ty 102).ok = true := rfl
@[go_sem] theorem t102size : (C.ty 102).size = 1 := rfl
@[go_sem] theorem t102bytes : (C.ty 102).bytes = 8 := rfl
@[go_sem] theorem t102agg : (C.ty 102).agg = false := rfl
@[go_sem] theorem t103ok : (C.ty 103).ok = true := rfl
@[go_sem] theorem t103size : (C.ty 103).size = 1 := rfl
@[go_sem] theorem t103bytes : (C.ty 103).bytes = 8 := rfl
@[go_sem] theorem t103agg : (C.ty 103).agg = false := rfl
@[go_sem] theorem t103ik : (C.ty 103).ik = some .u64 := rfl
@[go_sem] theorem t103z : zsOf (C.ty 103) = ((.int .u64 0) : Value).cells.toList.map cv1 := rfl
@[go_sem] theorem t104ok : (C.ty 104).ok = true := rfl
@[go_sem] theorem t104size : (C.ty 104).size = 1 := rfl
@[go_sem] theorem t104bytes : (C.ty 104).bytes = 8 := rfl
@[go_sem] theorem t104agg : (C.ty 104).agg = false := rfl
@[go_sem] theorem t105ok : (C.ty 105).ok = true := rfl
@[go_sem] theorem t105size : (C.ty 105).size = 1 := rfl
@[go_sem] theorem t105bytes : (C.ty 105).bytes = 8 := rfl
@[go_sem] theorem t105agg : (C.ty 105).agg = false := rfl
@[go_sem] theorem t105ik : (C.ty 105).ik = some .i64 := rfl
@[go_sem] theorem t105z : zsOf (C.ty 105) = ((.int .i64 0) : Value).cells.toList.map cv1 := rfl
@[go_sem] theorem t107ok : (C.ty 107).ok = true := rfl
@[go_sem] theorem t107size : (C.ty 107).size = 1 := rfl
@[go_sem] theorem t107bytes : (C.ty 107).bytes = 8 := rfl
@[go_sem] theorem t107agg : (C.ty 107).agg = false := rfl
@[go_sem] theorem t108ok : (C.ty 108).ok = true := rfl
@[go_sem] theorem t108size : (C.ty 108).size = 1 := rfl
@[go_sem] theorem t108bytes : (C.ty 108).bytes = 8 := rfl
@[go_sem] theorem t108agg : (C.ty 108).agg = false := rfl
@[go_sem] theorem t109ok : (C.ty 109).ok = true := rfl
@[go_sem] theorem t109size : (C.ty 109).size = 1 := rfl
@[go_sem] theorem t109bytes : (C.ty 109).bytes = 8 := rfl
@[go_sem] theorem t109agg : (C.ty 109).agg = false := rfl
@[go_sem] theorem t110ok : (C.ty 110).ok = true := rfl
@[go_sem] theorem t110size : (C.ty 110).size = 1 := rfl
@[go_sem] theorem t110bytes : (C.ty 110).bytes = 8 := rfl
@[go_sem] theorem t110agg : (C.ty 110).agg = false := rfl
@[go_sem] theorem t111ok : (C.ty 111).ok = true := rfl
@[go_sem] theorem t111size : (C.ty 111).size = 1 := rfl
@[go_sem] theorem t111bytes : (C.ty 111).bytes = 8 := rfl
@[go_sem] theorem t111agg : (C.ty 111).agg = false := rfl
@[go_sem] theorem t112ok : (C.ty 112).ok = true := rfl
@[go_sem] theorem t112size : (C.ty 112).size = 1 := rfl
@[go_sem] theorem t112bytes : (C.ty 112).bytes = 4 := rfl
@[go_sem] theorem t112agg : (C.ty 112).agg = false := rfl
@[go_sem] theorem t112ik : (C.ty 112).ik = some .u32 := rfl
@[go_sem] theorem t112z : zsOf (C.ty 112) = ((.int .u32 0) : Value).cells.toList.map cv1 := rfl
@[go_sem] theorem t113ok : (C.ty 113).ok = true := rfl
@[go_sem] theorem t113size : (C.ty 113).size = 1 := rfl
@[go_sem] theorem t113bytes : (C.ty 113).bytes = 8 := rfl
@[go_sem] theorem t113agg : (C.ty 113).agg = false := rfl
@[go_sem] theorem t114ok : (C.ty 114).ok = true := rfl
@[go_sem] theorem t114size : (C.ty 114).size = 1 := rfl
@[go_sem] theorem t114bytes : (C.ty 114).bytes = 8 := rfl
@[go_sem] theorem t114agg : (C.ty 114).agg = false := rfl
@[go_sem] theorem t114ik : (C.ty 114).ik = some .u64 := rfl
@[go_sem] theorem t114z : zsOf (C.ty 114) = ((.int .u64 0) : Value).cells.toList.map cv1 := rfl
@[go_sem] theorem t115ok : (C.ty 115).ok = true := rfl
@[go_sem] theorem t115size : (C.ty 115).size = 1 := rfl
@[go_sem] theorem t115bytes : (C.ty 115).bytes = 8 := rfl
@[go_sem] theorem t115agg : (C.ty 115).agg = false := rfl
@[go_sem] theorem t115ik : (C.ty 115).ik = some .u64 := rfl
@[go_sem] theorem t115z : zsOf (C.ty 115) = ((.int .u64 0) : Value).cells.toList.map cv1 := rfl
@[go_sem] theorem t116ok : (C.ty 116).ok = true := rfl
@[go_sem] theorem t116size : (C.ty 116).size = 1 := rfl
@[go_sem] theorem t116bytes : (C.ty 116).bytes = 8 := rfl
@[go_sem] theorem t116agg : (C.ty 116).agg = false := rfl
@[go_sem] theorem t117ok : (C.ty 117).ok = true := rfl
@[go_sem] theorem t117size : (C.ty 117).size = 1 := rfl
@[go_sem] theorem t117bytes : (C.ty 117).bytes = 8 := rfl
@[go_sem] theorem t117agg : (C.ty 117).agg = false := rfl
@[go_sem] theorem t118ok : (C.ty 118).ok = true := rfl
@[go_sem] theorem t118size : (C.ty 118).size = 1 := rfl
@[go_sem] theorem t118bytes : (C.ty 118).bytes = 8 := rfl
@[go_sem] theorem t118agg : (C.ty 118).agg = false := rfl
@[go_sem] theorem t119ok : (C.ty 119).ok = true := rfl
@[go_sem] theorem t119size : (C.ty 119).size = 1 := rfl
@[go_sem] theorem t119bytes : (C.ty 119).bytes = 8 := rfl
@[go_sem] theorem t119agg : (C.ty 119).agg = false := rfl
@[go_sem] theorem t119z : zsOf (C.ty 119) = ((.pointer none) : Value).cells.toList.map cv1 := rfl
@[go_sem] theorem t120ok : (C.ty 120).ok = true := rfl
@[go_sem] theorem t120size : (C.ty 120).size = 1 := rfl
@[go_sem] theorem t120bytes : (C.ty 120).bytes = 8 := rfl
@[go_sem] theorem t120agg : (C.ty 120).agg = false := rfl
@[go_sem] theorem t121ok : (C.ty 121).ok = true := rfl
@[go_sem] theorem t121size : (C.ty 121).size = 1 := rfl
@[go_sem] theorem t121bytes : (C.ty 121).bytes = 8 := rfl
@[go_sem] theorem t121agg : (C.ty 121).agg = false := rfl
@[go_sem] theorem t121z : zsOf (C.ty 121) = ((.pointer none) : Value).cells.toList.map cv1 := rfl
@[go_sem] theorem t122ok : (C.ty 122).ok = true := rfl
@[go_sem] theorem t122size : (C.ty 122).size = 1 := rfl
@[go_sem] theorem t122bytes : (C.ty 122).bytes = 8 := rfl
@[go_sem] theorem t122agg : (C.ty 122).agg = false := rfl
@[go_sem] theorem t123ok : (C.ty 123).ok = true := rfl
@[go_sem] theorem t123size : (C.ty 123).size = 1 := rfl
@[go_sem] theorem t123bytes : (C.ty 123).bytes = 8 := rfl
@[go_sem] theorem t123agg : (C.ty 123).agg = false := rfl
@[go_sem] theorem t124ok : (C.ty 124).ok = true := rfl
@[go_sem] theorem t124size : (C.ty 124).size = 4 := rfl
@[go_sem] theorem t124bytes : (C.ty 124).bytes = 40 := rfl
@[go_sem] theorem t124agg : (C.ty 124).agg = true := rfl
@[go_sem] theorem t124fs : (C.ty 124).fs = [(0, 17), (1, 17), (2, 17), (3, 9)] := rfl
@[go_sem] theorem t124z : zsOf (C.ty 124) = ((.agg #[(.pointer none), (.pointer none), (.pointer none), (.string ⟨#[]⟩)]) : Value).cells.toList.map cv1 := rfl
@[go_sem] theorem t125ok : (C.ty 125).ok = true := rfl
@[go_sem] theorem t125size : (C.ty 125).size = 4 := rfl
@[go_sem] theorem t125bytes : (C.ty 125).bytes = 40 := rfl
@[go_sem] theorem t125agg : (C.ty 125).agg = true := rfl
@[go_sem] theorem t125fs : (C.ty 125).fs = [(0, 17), (1, 17), (2, 17), (3, 9)] := rfl
@[go_sem] theorem t125z : zsOf (C.ty 125) = ((.agg #[(.pointer none), (.pointer none), (.pointer none), (.string ⟨#[]⟩)]) : Value).cells.toList.map cv1 := rfl
@[go_sem] theorem t126ok : (C.ty 126).ok = true := rfl
@[go_sem] theorem t126size : (C.ty 126).size = 0 := rfl
@[go_sem] theorem t126bytes : (C.ty 126).bytes = 0 := rfl
@[go_sem] theorem t126agg : (C.ty 126).agg = true := rfl
@[go_sem] theorem t126arr : (C.ty 126).arr = some (0, 16) := rfl
@[go_sem] theorem t126z : zsOf (C.ty 126) = ((.agg #[]) : Value).cells.toList.map cv1 := rfl
@[go_sem] theorem t127ok : (C.ty 127).ok = true := rfl
@[go_sem] theorem t127size : (C.ty 127).size = 0 := rfl
@[go_sem] theorem t127bytes : (C.ty 127).bytes = 0 := rfl
@[go_sem] theorem t127agg : (C.ty 127).agg = true := rfl
@[go_sem] theorem t127fs : (C.ty 127).fs = [(0, 126)] := rfl
@[go_sem] theorem t127z : zsOf (C.ty 127) = ((.agg #[]) : Value).cells.toList.map cv1 := rfl
@[go_sem] theorem t128ok : (C.ty 128).ok = true := rfl
@[go_sem] theorem t128size : (C.ty 128).size = 0 := rfl
@[go_sem] theorem t128bytes : (C.ty 128).bytes = 0 := rfl
@[go_sem] theorem t128agg : (C.ty 128).agg = true := rfl
@[go_sem] theorem t128fs : (C.ty 128).fs = [(0, 126)] := rfl
@[go_sem] theorem t128z : zsOf (C.ty 128) = ((.agg #[]) : Value).cells.toList.map cv1 := rfl
@[go_sem] theorem t129ok : (C.ty 129).ok = true := rfl
@[go_sem] theorem t129size : (C.ty 129).size = 1 := rfl
@[go_sem] theorem t129bytes : (C.ty 129).bytes = 8 := rfl
@[go_sem] theorem t129agg : (C.ty 129).agg = false := rfl
@[go_sem] theorem t130ok : (C.ty 130).ok = true := rfl
@[go_sem] theorem t130size : (C.ty 130).size = 1 := rfl
@[go_sem] theorem t130bytes : (C.ty 130).bytes = 1 := rfl
@[go_sem] theorem t130agg : (C.ty 130).agg = false := rfl
@[go_sem] theorem t130ik : (C.ty 130).ik = some .u8 := rfl
@[go_sem] theorem t130z : zsOf (C.ty 130) = ((.int .u8 0) : Value).cells.toList.map cv1 := rfl
@[go_sem] theorem t131ok : (C.ty 131).ok = true := rfl
@[go_sem] theorem t131size : (C.ty 131).size = 1 := rfl
@[go_sem] theorem t131bytes : (C.ty 131).bytes = 1 := rfl
@[go_sem] theorem t131agg : (C.ty 131).agg = false := rfl
@[go_sem] theorem t131ik : (C.ty 131).ik = some .u8 := rfl
@[go_sem] theorem t131z : zsOf (C.ty 131) = ((.int .u8 0) : Value).cells.toList.map cv1 := rfl
@[go_sem] theorem t132ok : (C.ty 132).ok = true := rfl
@[go_sem] theorem t132size : (C.ty 132).size = 1 := rfl
@[go_sem] theorem t132bytes : (C.ty 132).bytes = 8 := rfl
@[go_sem] theorem t132agg : (C.ty 132).agg = false := rfl
@[go_sem] theorem t133ok : (C.ty 133).ok = true := rfl
@[go_sem] theorem t133size : (C.ty 133).size = 1 := rfl
@[go_sem] theorem t133bytes : (C.ty 133).bytes = 8 := rfl
@[go_sem] theorem t133agg : (C.ty 133).agg = false := rfl
@[go_sem] theorem t133z : zsOf (C.ty 133) = ((.pointer none) : Value).cells.toList.map cv1 := rfl
@[go_sem] theorem t134ok : (C.ty 134).ok = true := rfl
@[go_sem] theorem t134size : (C.ty 134).size = 1 := rfl
@[go_sem] theorem t134bytes : (C.ty 134).bytes = 4 := rfl
@[go_sem] theorem t134agg : (C.ty 134).agg = false := rfl
@[go_sem] theorem t134ik : (C.ty 134).ik = some .i32 := rfl
@[go_sem] theorem t134z : zsOf (C.ty 134) = ((.int .i32 0) : Value).cells.toList.map cv1 := rfl
@[go_sem] theorem t135ok : (C.ty 135).ok = true := rfl
@[go_sem] theorem t135size : (C.ty 135).size = 1 := rfl
@[go_sem] theorem t135bytes : (C.ty 135).bytes = 4 := rfl
@[go_sem] theorem t135agg : (C.ty 135).agg = false := rfl
@[go_sem] theorem t135ik : (C.ty 135).ik = some .i32 := rfl
@[go_sem] theorem t135z : zsOf (C.ty 135) = ((.int .i32 0) : Value).cells.toList.map cv1 := rfl
@[go_sem] theorem t136ok : (C.ty 136).ok = true := rfl
@[go_sem] theorem t136size : (C.ty 136).size = 11 := rfl
@[go_sem] theorem t136bytes : (C.ty 136).bytes = 48 := rfl
@[go_sem] theorem t136agg : (C.ty 136).agg = true := rfl
@[go_sem] theorem t136fs : (C.ty 136).fs = [(0, 12), (1, 12), (2, 112), (3, 130), (4, 5), (5, 5), (6, 131), (7, 132), (8, 133), (9, 134), (10, 135)] := rfl
@[go_sem] theorem t136z : zsOf (C.ty 136) = ((.agg #[(.int .u64 0), (.int .u64 0), (.int .u32 0), (.int .u8 0), (.int .u8 0), (.int .u8 0), (.int .u8 0), .nilFunc, (.pointer none), (.int .i32 0), (.int .i32 0)]) : Value).cells.toList.map cv1 := rfl
@[go_sem] theorem t137ok : (C.ty 137).ok = true := rfl
@[go_sem] theorem t137size : (C.ty 137).size = 11 := rfl
@[go_sem] theorem t137bytes : (C.ty 137).bytes = 48 := rfl
@[go_sem] theorem t137agg : (C.ty 137).agg = true := rfl
@[go_sem] theorem t137fs : (C.ty 137).fs = [(0, 12), (1, 12), (2, 112), (3, 130), (4, 5), (5, 5), (6, 131), (7, 132), (8, 133), (9, 134), (10, 135)] := rfl
@[go_sem] theorem t137z : zsOf (C.ty 137) = ((.agg #[(.int .u64 0), (.int .u64 0), (.int .u32 0), (.int .u8 0), (.int .u8 0), (.int .u8 0), (.int .u8 0), .nilFunc, (.pointer none), (.int .i32 0), (.int .i32 0)]) : Value).cells.toList.map cv1 := rfl
abbrev t0 : Go.Operand := .tmp 0
abbrev t1 : Go.Operand := .tmp 1
abbrev t2 : Go.Operand := .tmp 2
abbrev t3 : Go.Operand := .tmp 3
abbrev t4 : Go.Operand := .tmp 4
abbrev t5 : Go.Operand := .tmp 5
abbrev t6 : Go.Operand := .tmp 6
abbrev t7 : Go.Operand := .tmp 7
abbrev t8 : Go.Operand := .tmp 8
abbrev t9 : Go.Operand := .tmp 9
abbrev t10 : Go.Operand := .tmp 10
abbrev t11 : Go.Operand := .tmp 11
abbrev t12 : Go.Operand := .tmp 12
abbrev t13 : Go.Operand := .tmp 13
abbrev t14 : Go.Operand := .tmp 14
abbrev t15 : Go.Operand := .tmp 15
abbrev t16 : Go.Operand := .tmp 16
abbrev t17 : Go.Operand := .tmp 17
abbrev t18 : Go.Operand := .tmp 18
abbrev t19 : Go.Operand := .tmp 19
abbrev t20 : Go.Operand := .tmp 20
abbrev t21 : Go.Operand := .tmp 21
abbrev t22 : Go.Operand := .tmp 22
abbrev t23 : Go.Operand := .tmp 23
abbrev t24 : Go.Operand := .tmp 24
abbrev t25 : Go.Operand := .tmp 25
abbrev t26 : Go.Operand := .tmp 26
abbrev t27 : Go.Operand := .tmp 27
abbrev t28 : Go.Operand := .tmp 28
abbrev t29 : Go.Operand := .tmp 29
abbrev t30 : Go.Operand := .tmp 30
abbrev t31 : Go.Operand := .tmp 31
abbrev t32 : Go.Operand := .tmp 32
abbrev t33 : Go.Operand := .tmp 33
abbrev t34 : Go.Operand := .tmp 34
abbrev t35 : Go.Operand := .tmp 35
abbrev t36 : Go.Operand := .tmp 36
abbrev t37 : Go.Operand := .tmp 37
abbrev t38 : Go.Operand := .tmp 38
abbrev t39 : Go.Operand := .tmp 39
abbrev t40 : Go.Operand := .tmp 40
abbrev t41 : Go.Operand := .tmp 41
abbrev t42 : Go.Operand := .tmp 42
abbrev t43 : Go.Operand := .tmp 43
abbrev t44 : Go.Operand := .tmp 44
abbrev t45 : Go.Operand := .tmp 45
abbrev t46 : Go.Operand := .tmp 46
abbrev t47 : Go.Operand := .tmp 47
abbrev t48 : Go.Operand := .tmp 48
abbrev t49 : Go.Operand := .tmp 49
abbrev t50 : Go.Operand := .tmp 50
abbrev t51 : Go.Operand := .tmp 51
abbrev t52 : Go.Operand := .tmp 52
abbrev t53 : Go.Operand := .tmp 53
abbrev t54 : Go.Operand := .tmp 54
abbrev t55 : Go.Operand := .tmp 55
abbrev t56 : Go.Operand := .tmp 56
abbrev t57 : Go.Operand := .tmp 57
abbrev t58 : Go.Operand := .tmp 58
abbrev t59 : Go.Operand := .tmp 59
abbrev t60 : Go.Operand := .tmp 60
abbrev t61 : Go.Operand := .tmp 61
abbrev t62 : Go.Operand := .tmp 62
abbrev t63 : Go.Operand := .tmp 63
abbrev t64 : Go.Operand := .tmp 64
abbrev t65 : Go.Operand := .tmp 65
abbrev t66 : Go.Operand := .tmp 66
abbrev t67 : Go.Operand := .tmp 67
abbrev t68 : Go.Operand := .tmp 68
abbrev t69 : Go.Operand := .tmp 69
abbrev t70 : Go.Operand := .tmp 70
abbrev t71 : Go.Operand := .tmp 71
abbrev t72 : Go.Operand := .tmp 72
abbrev t73 : Go.Operand := .tmp 73
abbrev t74 : Go.Operand := .tmp 74
abbrev t75 : Go.Operand := .tmp 75
abbrev t76 : Go.Operand := .tmp 76
abbrev t77 : Go.Operand := .tmp 77
abbrev t78 : Go.Operand := .tmp 78
abbrev t79 : Go.Operand := .tmp 79
abbrev t80 : Go.Operand := .tmp 80
abbrev t81 : Go.Operand := .tmp 81
abbrev t82 : Go.Operand := .tmp 82
abbrev t83 : Go.Operand := .tmp 83
abbrev t84 : Go.Operand := .tmp 84
abbrev t85 : Go.Operand := .tmp 85
abbrev t86 : Go.Operand := .tmp 86
abbrev t87 : Go.Operand := .tmp 87
abbrev t88 : Go.Operand := .tmp 88
abbrev t89 : Go.Operand := .tmp 89
abbrev t90 : Go.Operand := .tmp 90
abbrev t91 : Go.Operand := .tmp 91
abbrev t92 : Go.Operand := .tmp 92
abbrev t93 : Go.Operand := .tmp 93
abbrev t94 : Go.Operand := .tmp 94
abbrev t95 : Go.Operand := .tmp 95
abbrev t96 : Go.Operand := .tmp 96
abbrev t97 : Go.Operand := .tmp 97
abbrev t98 : Go.Operand := .tmp 98
abbrev t99 : Go.Operand := .tmp 99
abbrev t100 : Go.Operand := .tmp 100
abbrev t101 : Go.Operand := .tmp 101
abbrev t102 : Go.Operand := .tmp 102
abbrev t103 : Go.Operand := .tmp 103
abbrev t104 : Go.Operand := .tmp 104
abbrev t105 : Go.Operand := .tmp 105
abbrev t106 : Go.Operand := .tmp 106
abbrev t107 : Go.Operand := .tmp 107
abbrev t108 : Go.Operand := .tmp 108
abbrev t109 : Go.Operand := .tmp 109
abbrev t110 : Go.Operand := .tmp 110
abbrev t111 : Go.Operand := .tmp 111
abbrev t112 : Go.Operand := .tmp 112
abbrev t113 : Go.Operand := .tmp 113
abbrev t114 : Go.Operand := .tmp 114
abbrev t115 : Go.Operand := .tmp 115
abbrev t116 : Go.Operand := .tmp 116
abbrev t117 : Go.Operand := .tmp 117
abbrev t118 : Go.Operand := .tmp 118
abbrev t119 : Go.Operand := .tmp 119
abbrev t120 : Go.Operand := .tmp 120
abbrev t121 : Go.Operand := .tmp 121
abbrev t122 : Go.Operand := .tmp 122
abbrev t123 : Go.Operand := .tmp 123
abbrev t124 : Go.Operand := .tmp 124
abbrev t125 : Go.Operand := .tmp 125
abbrev t126 : Go.Operand := .tmp 126
abbrev t127 : Go.Operand := .tmp 127
abbrev t128 : Go.Operand := .tmp 128
abbrev t129 : Go.Operand := .tmp 129
abbrev t130 : Go.Operand := .tmp 130
abbrev t131 : Go.Operand := .tmp 131
abbrev t132 : Go.Operand := .tmp 132
abbrev t133 : Go.Operand := .tmp 133
abbrev t134 : Go.Operand := .tmp 134
abbrev t135 : Go.Operand := .tmp 135
abbrev t136 : Go.Operand := .tmp 136
abbrev t137 : Go.Operand := .tmp 137
abbrev t138 : Go.Operand := .tmp 138
abbrev t139 : Go.Operand := .tmp 139
abbrev t140 : Go.Operand := .tmp 140
abbrev t141 : Go.Operand := .tmp 141
abbrev t142 : Go.Operand := .tmp 142
abbrev t143 : Go.Operand := .tmp 143
abbrev t144 : Go.Operand := .tmp 144
abbrev t145 : Go.Operand := .tmp 145
abbrev t146 : Go.Operand := .tmp 146
abbrev t147 : Go.Operand := .tmp 147
abbrev t148 : Go.Operand := .tmp 148
abbrev t149 : Go.Operand := .tmp 149
abbrev t150 : Go.Operand := .tmp 150
abbrev t151 : Go.Operand := .tmp 151
abbrev t152 : Go.Operand := .tmp 152
abbrev t153 : Go.Operand := .tmp 153
abbrev t154 : Go.Operand := .tmp 154
abbrev t155 : Go.Operand := .tmp 155
abbrev t156 : Go.Operand := .tmp 156
abbrev t157 : Go.Operand := .tmp 157
abbrev t158 : Go.Operand := .tmp 158
abbrev t159 : Go.Operand := .tmp 159
abbrev t160 : Go.Operand := .tmp 160
abbrev t161 : Go.Operand := .tmp 161
abbrev t162 : Go.Operand := .tmp 162
abbrev t163 : Go.Operand := .tmp 163
abbrev t164 : Go.Operand := .tmp 164
abbrev t165 : Go.Operand := .tmp 165
abbrev t166 : Go.Operand := .tmp 166
abbrev t167 : Go.Operand := .tmp 167
abbrev t168 : Go.Operand := .tmp 168
abbrev t169 : Go.Operand := .tmp 169
abbrev t170 : Go.Operand := .tmp 170
abbrev t171 : Go.Operand := .tmp 171
abbrev t172 : Go.Operand := .tmp 172
abbrev t173 : Go.Operand := .tmp 173
abbrev t174 : Go.Operand := .tmp 174
abbrev t175 : Go.Operand := .tmp 175
abbrev t176 : Go.Operand := .tmp 176
abbrev t177 : Go.Operand := .tmp 177
abbrev t178 : Go.Operand := .tmp 178
abbrev t179 : Go.Operand := .tmp 179
abbrev t180 : Go.Operand := .tmp 180
abbrev t181 : Go.Operand := .tmp 181
abbrev t182 : Go.Operand := .tmp 182
abbrev t183 : Go.Operand := .tmp 183
abbrev t184 : Go.Operand := .tmp 184
abbrev t185 : Go.Operand := .tmp 185
abbrev t186 : Go.Operand := .tmp 186
abbrev t187 : Go.Operand := .tmp 187
abbrev t188 : Go.Operand := .tmp 188
abbrev t189 : Go.Operand := .tmp 189
abbrev t190 : Go.Operand := .tmp 190
abbrev t191 : Go.Operand := .tmp 191
abbrev t192 : Go.Operand := .tmp 192
abbrev t193 : Go.Operand := .tmp 193
abbrev t194 : Go.Operand := .tmp 194
abbrev t195 : Go.Operand := .tmp 195
abbrev t196 : Go.Operand := .tmp 196
abbrev t197 : Go.Operand := .tmp 197
abbrev t198 : Go.Operand := .tmp 198
abbrev t199 : Go.Operand := .tmp 199
abbrev t200 : Go.Operand := .tmp 200
abbrev t201 : Go.Operand := .tmp 201
abbrev t202 : Go.Operand := .tmp 202
abbrev t203 : Go.Operand := .tmp 203
abbrev t204 : Go.Operand := .tmp 204
abbrev t205 : Go.Operand := .tmp 205
abbrev t206 : Go.Operand := .tmp 206
abbrev t207 : Go.Operand := .tmp 207
abbrev t208 : Go.Operand := .tmp 208
abbrev t209 : Go.Operand := .tmp 209
abbrev t210 : Go.Operand := .tmp 210
abbrev t211 : Go.Operand := .tmp 211
abbrev t212 : Go.Operand := .tmp 212
abbrev t213 : Go.Operand := .tmp 213
abbrev t214 : Go.Operand := .tmp 214
abbrev t215 : Go.Operand := .tmp 215
abbrev t216 : Go.Operand := .tmp 216
abbrev t217 : Go.Operand := .tmp 217
abbrev t218 : Go.Operand := .tmp 218
abbrev t219 : Go.Operand := .tmp 219
abbrev t220 : Go.Operand := .tmp 220
abbrev t221 : Go.Operand := .tmp 221
abbrev t222 : Go.Operand := .tmp 222
abbrev t223 : Go.Operand := .tmp 223
abbrev t224 : Go.Operand := .tmp 224
abbrev t225 : Go.Operand := .tmp 225
abbrev t226 : Go.Operand := .tmp 226
abbrev t227 : Go.Operand := .tmp 227
abbrev t228 : Go.Operand := .tmp 228
abbrev t229 : Go.Operand := .tmp 229
abbrev t230 : Go.Operand := .tmp 230
abbrev t231 : Go.Operand := .tmp 231
abbrev t232 : Go.Operand := .tmp 232
abbrev t233 : Go.Operand := .tmp 233
abbrev t234 : Go.Operand := .tmp 234
abbrev t235 : Go.Operand := .tmp 235
abbrev t236 : Go.Operand := .tmp 236
abbrev t237 : Go.Operand := .tmp 237
abbrev t238 : Go.Operand := .tmp 238
abbrev t239 : Go.Operand := .tmp 239
abbrev t240 : Go.Operand := .tmp 240
abbrev t241 : Go.Operand := .tmp 241
abbrev t242 : Go.Operand := .tmp 242
abbrev t243 : Go.Operand := .tmp 243
abbrev t244 : Go.Operand := .tmp 244
abbrev t245 : Go.Operand := .tmp 245
abbrev t246 : Go.Operand := .tmp 246
abbrev t247 : Go.Operand := .tmp 247
abbrev t248 : Go.Operand := .tmp 248
abbrev t249 : Go.Operand := .tmp 249
abbrev t250 : Go.Operand := .tmp 250
abbrev t251 : Go.Operand := .tmp 251
abbrev t252 : Go.Operand := .tmp 252
abbrev t253 : Go.Operand := .tmp 253
abbrev t254 : Go.Operand := .tmp 254
abbrev t255 : Go.Operand := .tmp 255
abbrev t256 : Go.Operand := .tmp 256
abbrev t257 : Go.Operand := .tmp 257
abbrev t258 : Go.Operand := .tmp 258
abbrev t259 : Go.Operand := .tmp 259
abbrev t260 : Go.Operand := .tmp 260
abbrev t261 : Go.Operand := .tmp 261
abbrev t262 : Go.Operand := .tmp 262
abbrev t263 : Go.Operand := .tmp 263
abbrev t264 : Go.Operand := .tmp 264
abbrev t265 : Go.Operand := .tmp 265
abbrev t266 : Go.Operand := .tmp 266
abbrev t267 : Go.Operand := .tmp 267
abbrev t268 : Go.Operand := .tmp 268
abbrev t269 : Go.Operand := .tmp 269
abbrev t270 : Go.Operand := .tmp 270
abbrev t271 : Go.Operand := .tmp 271
abbrev t272 : Go.Operand := .tmp 272
abbrev t273 : Go.Operand := .tmp 273
abbrev t274 : Go.Operand := .tmp 274
abbrev t275 : Go.Operand := .tmp 275
abbrev t276 : Go.Operand := .tmp 276
abbrev t277 : Go.Operand := .tmp 277
abbrev t278 : Go.Operand := .tmp 278
abbrev t279 : Go.Operand := .tmp 279
abbrev t280 : Go.Operand := .tmp 280
abbrev t281 : Go.Operand := .tmp 281
abbrev t282 : Go.Operand := .tmp 282
abbrev t283 : Go.Operand := .tmp 283
abbrev t284 : Go.Operand := .tmp 284
abbrev t285 : Go.Operand := .tmp 285
abbrev t286 : Go.Operand := .tmp 286
abbrev t287 : Go.Operand := .tmp 287
abbrev t288 : Go.Operand := .tmp 288
abbrev t289 : Go.Operand := .tmp 289
abbrev t290 : Go.Operand := .tmp 290
abbrev t291 : Go.Operand := .tmp 291
abbrev t292 : Go.Operand := .tmp 292
abbrev t293 : Go.Operand := .tmp 293
abbrev t294 : Go.Operand := .tmp 294
abbrev t295 : Go.Operand := .tmp 295
abbrev t296 : Go.Operand := .tmp 296
abbrev t297 : Go.Operand := .tmp 297
abbrev t298 : Go.Operand := .tmp 298
abbrev t299 : Go.Operand := .tmp 299
abbrev t300 : Go.Operand := .tmp 300
abbrev t301 : Go.Operand := .tmp 301
abbrev t302 : Go.Operand := .tmp 302
abbrev t303 : Go.Operand := .tmp 303
abbrev t304 : Go.Operand := .tmp 304
abbrev t305 : Go.Operand := .tmp 305
abbrev t306 : Go.Operand := .tmp 306
abbrev t307 : Go.Operand := .tmp 307
abbrev t308 : Go.Operand := .tmp 308
abbrev t309 : Go.Operand := .tmp 309
abbrev t310 : Go.Operand := .tmp 310
abbrev t311 : Go.Operand := .tmp 311
abbrev t312 : Go.Operand := .tmp 312
abbrev t313 : Go.Operand := .tmp 313
abbrev t314 : Go.Operand := .tmp 314
abbrev t315 : Go.Operand := .tmp 315
abbrev t316 : Go.Operand := .tmp 316
abbrev t317 : Go.Operand := .tmp 317
abbrev t318 : Go.Operand := .tmp 318
abbrev t319 : Go.Operand := .tmp 319
abbrev t320 : Go.Operand := .tmp 320
abbrev t321 : Go.Operand := .tmp 321
abbrev t322 : Go.Operand := .tmp 322
abbrev t323 : Go.Operand := .tmp 323
abbrev t324 : Go.Operand := .tmp 324
abbrev t325 : Go.Operand := .tmp 325
abbrev t326 : Go.Operand := .tmp 326
abbrev t327 : Go.Operand := .tmp 327
abbrev t328 : Go.Operand := .tmp 328
abbrev t329 : Go.Operand := .tmp 329
abbrev t330 : Go.Operand := .tmp 330
abbrev t331 : Go.Operand := .tmp 331
abbrev t332 : Go.Operand := .tmp 332
abbrev t333 : Go.Operand := .tmp 333
abbrev t334 : Go.Operand := .tmp 334
abbrev t335 : Go.Operand := .tmp 335
abbrev t336 : Go.Operand := .tmp 336
abbrev t337 : Go.Operand := .tmp 337
abbrev t338 : Go.Operand := .tmp 338
abbrev t339 : Go.Operand := .tmp 339
abbrev t340 : Go.Operand := .tmp 340
abbrev t341 : Go.Operand := .tmp 341
abbrev t342 : Go.Operand := .tmp 342
abbrev t343 : Go.Operand := .tmp 343
abbrev t344 : Go.Operand := .tmp 344
abbrev t345 : Go.Operand := .tmp 345
abbrev t346 : Go.Operand := .tmp 346
abbrev t347 : Go.Operand := .tmp 347
abbrev t348 : Go.Operand := .tmp 348
abbrev t349 : Go.Operand := .tmp 349
abbrev t350 : Go.Operand := .tmp 350
abbrev t351 : Go.Operand := .tmp 351
abbrev t352 : Go.Operand := .tmp 352
abbrev t353 : Go.Operand := .tmp 353
abbrev t354 : Go.Operand := .tmp 354
abbrev t355 : Go.Operand := .tmp 355
abbrev t356 : Go.Operand := .tmp 356
abbrev t357 : Go.Operand := .tmp 357
abbrev t358 : Go.Operand := .tmp 358
abbrev t359 : Go.Operand := .tmp 359
abbrev t360 : Go.Operand := .tmp 360
abbrev t361 : Go.Operand := .tmp 361
abbrev t362 : Go.Operand := .tmp 362
abbrev t363 : Go.Operand := .tmp 363
abbrev t364 : Go.Operand := .tmp 364
abbrev t365 : Go.Operand := .tmp 365
abbrev t366 : Go.Operand := .tmp 366
abbrev t367 : Go.Operand := .tmp 367
abbrev t368 : Go.Operand := .tmp 368
abbrev t369 : Go.Operand := .tmp 369
abbrev t370 : Go.Operand := .tmp 370
abbrev t371 : Go.Operand := .tmp 371
abbrev t372 : Go.Operand := .tmp 372
abbrev t373 : Go.Operand := .tmp 373
abbrev t374 : Go.Operand := .tmp 374
abbrev t375 : Go.Operand := .tmp 375
abbrev t376 : Go.Operand := .tmp 376
abbrev t377 : Go.Operand := .tmp 377
abbrev t378 : Go.Operand := .tmp 378
abbrev t379 : Go.Operand := .tmp 379
abbrev t380 : Go.Operand := .tmp 380
abbrev t381 : Go.Operand := .tmp 381
abbrev t382 : Go.Operand := .tmp 382
abbrev t383 : Go.Operand := .tmp 383
abbrev t384 : Go.Operand := .tmp 384
abbrev t385 : Go.Operand := .tmp 385
abbrev t386 : Go.Operand := .tmp 386
abbrev t387 : Go.Operand := .tmp 387
abbrev t388 : Go.Operand := .tmp 388
abbrev t389 : Go.Operand := .tmp 389
abbrev t390 : Go.Operand := .tmp 390
abbrev t391 : Go.Operand := .tmp 391
abbrev t392 : Go.Operand := .tmp 392
abbrev t393 : Go.Operand := .tmp 393
abbrev t394 : Go.Operand := .tmp 394
abbrev t395 : Go.Operand := .tmp 395
abbrev t396 : Go.Operand := .tmp 396
abbrev t397 : Go.Operand := .tmp 397
abbrev t398 : Go.Operand := .tmp 398
abbrev t399 : Go.Operand := .tmp 399
abbrev R1 (c : Go.Code) (j j2 d : Nat) (op : Go.Op) : Prop := Row1 C c j j2 d op
abbrev R0 (c : Go.Code) (j j2 : Nat) (op : Go.Op) : Prop := Row0 C c j j2 op
abbrev RE (c : Go.Code) (j : Nat) : Prop := RowE C c j
abbrev RG (c : Go.Code) (j j2 : Nat) (d : Option Nat) (op : Go.Op) (s : Nat) (b : Bool) : Prop := RowG C c j j2 d op s b
abbrev D1 (c : Go.Code) (j j2 d : Nat) (op : Go.Op) : Prop := Dow1 C c j j2 d op
abbrev D0 (c : Go.Code) (j j2 : Nat) (op : Go.Op) : Prop := Dow0 C c j j2 op
abbrev DE (c : Go.Code) (j : Nat) : Prop := DowE C c j
abbrev DG (c : Go.Code) (j j2 : Nat) (d : Option Nat) (op : Go.Op) (s : Nat) (b : Bool) : Prop := DowG C c j j2 d op s b
end Go.Proofs.Ytlomgfdepllanaa
end

section
set_option maxRecDepth 100000
namespace Go.Proofs.Ytlomgfdepllanaa
open Go Go.Bv
/-! fluxion/fluxionref06.SameList -/
noncomputable def c13_1 : Code := (Try.f13.body).getD .skip
noncomputable def c13_2 : Code := kid c13_1 0
noncomputable def c13_3 : Code := kid c13_1 1
noncomputable def c13_4 : Code := kid c13_3 0
noncomputable def c13_5 : Code := kid c13_4 0
noncomputable def c13_6 : Code := kid c13_4 1
noncomputable def c13_7 : Code := kid c13_6 0
noncomputable def c13_8 : Code := kid c13_7 0
noncomputable def c13_9 : Code := kid c13_3 1
noncomputable def c13_10 : Code := kid c13_9 0
noncomputable def c13_11 : Code := kid c13_10 0
noncomputable def c13_12 : Code := kid c13_10 1
noncomputable def c13_13 : Code := kid c13_12 0
noncomputable def c13_14 : Code := kid c13_13 0
noncomputable def c13_15 : Code := kid c13_14 0
noncomputable def c13_16 : Code := kid c13_15 0
noncomputable def c13_17 : Code := kid c13_15 1
noncomputable def c13_18 : Code := kid c13_14 1
noncomputable def c13_19 : Code := kid c13_18 0
noncomputable def c13_20 : Code := kid c13_19 0
noncomputable def c13_21 : Code := kid c13_20 0
noncomputable def c13_22 : Code := kid c13_20 1
noncomputable def c13_23 : Code := kid c13_22 0
noncomputable def c13_24 : Code := kid c13_23 0
noncomputable def c13_25 : Code := kid c13_18 1
noncomputable def c13_26 : Code := kid c13_9 1
noncomputable def c13_27 : Code := kid c13_26 0
@[go_sem] theorem w13 : Reg C c13_2 ∧
  R1 c13_2 0 1 4 (.assign (.const (.bool false))) ∧
  RE c13_2 1 ∧
  Reg C c13_5 ∧
  R1 c13_5 0 1 6 (.move t0) ∧
  R1 c13_5 1 2 7 (.call ⟨.builtin .len, #[t6], #[23]⟩) ∧
  R1 c13_5 2 3 8 (.move t1) ∧
  R1 c13_5 3 4 9 (.call ⟨.builtin .len, #[t8], #[23]⟩) ∧
  R1 c13_5 4 5 10 (.binOp .neq 3 t7 t9 3) ∧
  RE c13_5 5 ∧
  Reg C c13_8 ∧
  R1 c13_8 0 1 4 (.assign (.const (.bool false))) ∧
  RE c13_8 1 ∧
  Seq C c13_7 c13_8 .ret ∧
  Cond C c13_6 t10 c13_7 .skip ∧
  Seq C c13_4 c13_5 c13_6 ∧
  Reg C c13_11 ∧
  R1 c13_11 0 1 5 (.assign (.const (.int .i64 0))) ∧
  RE c13_11 1 ∧
  Reg C c13_16 ∧
  R1 c13_16 0 1 11 (.move t5) ∧
  R1 c13_16 1 2 12 (.move t0) ∧
  R1 c13_16 2 3 13 (.call ⟨.builtin .len, #[t12], #[23]⟩) ∧
  R1 c13_16 3 4 14 (.binOp .lss 3 t11 t13 3) ∧
  RE c13_16 4 ∧
  Cond C c13_17 t14 .skip (.exit 0) ∧
  Seq C c13_15 c13_16 c13_17 ∧
  Draw C c13_21 ∧
  D1 c13_21 0 1 17 (.move t0) ∧
  D1 c13_21 1 2 18 (.move t5) ∧
  D1 c13_21 2 3 19 (.indexAddr 23 t17 t18) ∧
  D1 c13_21 3 4 20 (.load 3 t19) ∧
  D1 c13_21 4 5 21 (.move t1) ∧
  D1 c13_21 5 6 22 (.move t5) ∧
  D1 c13_21 6 7 23 (.indexAddr 23 t21 t22) ∧
  D1 c13_21 7 8 24 (.load 3 t23) ∧
  D1 c13_21 8 9 25 (.binOp .neq 3 t20 t24 3) ∧
  DE c13_21 9 ∧
  Reg C c13_24 ∧
  R1 c13_24 0 1 4 (.assign (.const (.bool false))) ∧
  RE c13_24 1 ∧
  Seq C c13_23 c13_24 .ret ∧
  Cond C c13_22 t25 c13_23 .skip ∧
  Seq C c13_20 c13_21 c13_22 ∧
  Blk C c13_19 1 c13_20 ∧
  Reg C c13_25 ∧
  R1 c13_25 0 1 15 (.move t5) ∧
  R1 c13_25 1 2 16 (.binOp .add 3 t15 (.const (.int .i64 1)) 3) ∧
  R1 c13_25 2 3 5 (.assign t16) ∧
  RE c13_25 3 ∧
  Seq C c13_18 c13_19 c13_25 ∧
  Seq C c13_14 c13_15 c13_18 ∧
  Lp C c13_13 c13_14 ∧
  Blk C c13_12 0 c13_13 ∧
  Seq C c13_10 c13_11 c13_12 ∧
  Reg C c13_27 ∧
  R1 c13_27 0 1 4 (.assign (.const (.bool true))) ∧
  RE c13_27 1 ∧
  Seq C c13_26 c13_27 .ret ∧
  Seq C c13_9 c13_10 c13_26 ∧
  Seq C c13_3 c13_4 c13_9 ∧
  Seq C c13_1 c13_2 c13_3 :=
  ⟨reg_mk rfl, row1 rfl, rowE rfl, reg_mk rfl, row1 rfl, row1 rfl, row1 rfl, row1 rfl, row1 rfl, rowE rfl, reg_mk rfl, row1 rfl, rowE rfl, seq_mk rfl, cond_mk rfl, seq_mk rfl, reg_mk rfl, row1 rfl, rowE rfl, reg_mk rfl, row1 rfl, row1 rfl, row1 rfl, row1 rfl, rowE rfl, cond_mk rfl, seq_mk rfl, draw_mk rfl, dow1 rfl, dow1 rfl, dow1 rfl, dow1 rfl, dow1 rfl, dow1 rfl, dow1 rfl, dow1 rfl, dow1 rfl, dowE rfl, reg_mk rfl, row1 rfl, rowE rfl, seq_mk rfl, cond_mk rfl, seq_mk rfl, blk_mk rfl, reg_mk rfl, row1 rfl, row1 rfl, row1 rfl, rowE rfl, seq_mk rfl, seq_mk rfl, lp_mk rfl, blk_mk rfl, seq_mk rfl, reg_mk rfl, row1 rfl, rowE rfl, seq_mk rfl, seq_mk rfl, seq_mk rfl, seq_mk rfl⟩
theorem body13 : Try.f13.body = some c13_1 := rfl
/-! fluxion/fluxionref06.May -/
noncomputable def c18_1 : Code := (Try.f18.body).getD .skip
noncomputable def c18_2 : Code := kid c18_1 0
noncomputable def c18_3 : Code := kid c18_1 1
noncomputable def c18_4 : Code := kid c18_3 0
noncomputable def c18_5 : Code := kid c18_4 0
noncomputable def c18_6 : Code := kid c18_4 1
noncomputable def c18_7 : Code := kid c18_6 0
noncomputable def c18_8 : Code := kid c18_7 0
noncomputable def c18_9 : Code := kid c18_3 1
noncomputable def c18_10 : Code := kid c18_9 0
noncomputable def c18_11 : Code := kid c18_10 0
noncomputable def c18_12 : Code := kid c18_10 1
noncomputable def c18_13 : Code := kid c18_12 0
noncomputable def c18_14 : Code := kid c18_13 0
noncomputable def c18_15 : Code := kid c18_14 0
noncomputable def c18_16 : Code := kid c18_15 0
noncomputable def c18_17 : Code := kid c18_15 1
noncomputable def c18_18 : Code := kid c18_14 1
noncomputable def c18_19 : Code := kid c18_18 0
noncomputable def c18_20 : Code := kid c18_19 0
noncomputable def c18_21 : Code := kid c18_20 0
noncomputable def c18_22 : Code := kid c18_20 1
noncomputable def c18_23 : Code := kid c18_22 0
noncomputable def c18_24 : Code := kid c18_23 0
noncomputable def c18_25 : Code := kid c18_18 1
noncomputable def c18_26 : Code := kid c18_9 1
noncomputable def c18_27 : Code := kid c18_26 0
noncomputable def c18_28 : Code := kid c18_26 1
noncomputable def c18_29 : Code := kid c18_28 0
noncomputable def c18_30 : Code := kid c18_29 0
noncomputable def c18_31 : Code := kid c18_29 1
noncomputable def c18_32 : Code := kid c18_31 0
noncomputable def c18_33 : Code := kid c18_32 0
noncomputable def c18_34 : Code := kid c18_33 0
noncomputable def c18_35 : Code := kid c18_34 0
noncomputable def c18_36 : Code := kid c18_34 1
noncomputable def c18_37 : Code := kid c18_33 1
noncomputable def c18_38 : Code := kid c18_37 0
noncomputable def c18_39 : Code := kid c18_38 0
noncomputable def c18_40 : Code := kid c18_39 0
noncomputable def c18_41 : Code := kid c18_40 0
noncomputable def c18_42 : Code := kid c18_40 1
noncomputable def c18_43 : Code := kid c18_42 0
noncomputable def c18_44 : Code := kid c18_43 0
noncomputable def c18_45 : Code := kid c18_39 1
noncomputable def c18_46 : Code := kid c18_45 0
noncomputable def c18_47 : Code := kid c18_45 1
noncomputable def c18_48 : Code := kid c18_47 0
noncomputable def c18_49 : Code := kid c18_47 1
noncomputable def c18_50 : Code := kid c18_49 0
noncomputable def c18_51 : Code := kid c18_50 0
noncomputable def c18_52 : Code := kid c18_37 1
noncomputable def c18_53 : Code := kid c18_28 1
noncomputable def c18_54 : Code := kid c18_53 0
@[go_sem] theorem w18 : Reg C c18_2 ∧
  R1 c18_2 0 1 2 (.assign (.const (.int .i64 0))) ∧
  RE c18_2 1 ∧
  Reg C c18_5 ∧
  R1 c18_5 0 1 6 (.move t0) ∧
  R1 c18_5 1 2 7 (.call ⟨.builtin .len, #[t6], #[23]⟩) ∧
  R1 c18_5 2 3 8 (.binOp .gtr 3 t7 (.const (.int .i64 4)) 3) ∧
  RE c18_5 3 ∧
  Reg C c18_8 ∧
  R1 c18_8 0 1 2 (.assign (.const (.int .i64 14))) ∧
  RE c18_8 1 ∧
  Seq C c18_7 c18_8 .ret ∧
  Cond C c18_6 t8 c18_7 .skip ∧
  Seq C c18_4 c18_5 c18_6 ∧
  Reg C c18_11 ∧
  R1 c18_11 0 1 3 (.assign (.const (.int .i64 0))) ∧
  RE c18_11 1 ∧
  Reg C c18_16 ∧
  R1 c18_16 0 1 9 (.move t3) ∧
  R1 c18_16 1 2 10 (.move t0) ∧
  R1 c18_16 2 3 11 (.call ⟨.builtin .len, #[t10], #[23]⟩) ∧
  R1 c18_16 3 4 12 (.binOp .lss 3 t9 t11 3) ∧
  RE c18_16 4 ∧
  Cond C c18_17 t12 .skip (.exit 0) ∧
  Seq C c18_15 c18_16 c18_17 ∧
  Reg C c18_21 ∧
  R1 c18_21 0 1 15 (.move t0) ∧
  R1 c18_21 1 2 16 (.move t3) ∧
  R1 c18_21 2 3 17 (.indexAddr 23 t15 t16) ∧
  R1 c18_21 3 4 18 (.load 3 t17) ∧
  R1 c18_21 4 5 19 (.binOp .lss 3 t18 (.const (.int .i64 1)) 3) ∧
  RE c18_21 5 ∧
  Reg C c18_24 ∧
  R1 c18_24 0 1 2 (.assign (.const (.int .i64 13))) ∧
  RE c18_24 1 ∧
  Seq C c18_23 c18_24 .ret ∧
  Cond C c18_22 t19 c18_23 .skip ∧
  Seq C c18_20 c18_21 c18_22 ∧
  Blk C c18_19 1 c18_20 ∧
  Reg C c18_25 ∧
  R1 c18_25 0 1 13 (.move t3) ∧
  R1 c18_25 1 2 14 (.binOp .add 3 t13 (.const (.int .i64 1)) 3) ∧
  R1 c18_25 2 3 3 (.assign t14) ∧
  RE c18_25 3 ∧
  Seq C c18_18 c18_19 c18_25 ∧
  Seq C c18_14 c18_15 c18_18 ∧
  Lp C c18_13 c18_14 ∧
  Blk C c18_12 0 c18_13 ∧
  Seq C c18_10 c18_11 c18_12 ∧
  Reg C c18_27 ∧
  R1 c18_27 0 1 4 (.assign (.const (.int .i64 1))) ∧
  RE c18_27 1 ∧
  Reg C c18_30 ∧
  R1 c18_30 0 1 5 (.assign (.const (.int .i64 0))) ∧
  RE c18_30 1 ∧
  Reg C c18_35 ∧
  R1 c18_35 0 1 20 (.move t5) ∧
  R1 c18_35 1 2 21 (.move t0) ∧
  R1 c18_35 2 3 22 (.call ⟨.builtin .len, #[t21], #[23]⟩) ∧
  R1 c18_35 3 4 23 (.binOp .lss 3 t20 t22 3) ∧
  RE c18_35 4 ∧
  Cond C c18_36 t23 .skip (.exit 2) ∧
  Seq C c18_34 c18_35 c18_36 ∧
  Reg C c18_41 ∧
  R1 c18_41 0 1 26 (.move t0) ∧
  R1 c18_41 1 2 27 (.move t5) ∧
  R1 c18_41 2 3 28 (.indexAddr 23 t26 t27) ∧
  R1 c18_41 3 4 29 (.load 3 t28) ∧
  R1 c18_41 4 5 30 (.binOp .gtr 3 t29 (.const (.int .i64 1024)) 3) ∧
  RE c18_41 5 ∧
  Reg C c18_44 ∧
  R1 c18_44 0 1 2 (.assign (.const (.int .i64 14))) ∧
  RE c18_44 1 ∧
  Seq C c18_43 c18_44 .ret ∧
  Cond C c18_42 t30 c18_43 .skip ∧
  Seq C c18_40 c18_41 c18_42 ∧
  Reg C c18_46 ∧
  R1 c18_46 0 1 31 (.move t4) ∧
  R1 c18_46 1 2 32 (.move t0) ∧
  R1 c18_46 2 3 33 (.move t5) ∧
  R1 c18_46 3 4 34 (.indexAddr 23 t32 t33) ∧
  R1 c18_46 4 5 35 (.load 3 t34) ∧
  R1 c18_46 5 6 36 (.binOp .mul 3 t31 t35 3) ∧
  R1 c18_46 6 7 4 (.assign t36) ∧
  RE c18_46 7 ∧
  Reg C c18_48 ∧
  R1 c18_48 0 1 37 (.move t4) ∧
  R1 c18_48 1 2 38 (.binOp .gtr 3 t37 (.const (.int .i64 1024)) 3) ∧
  RE c18_48 2 ∧
  Reg C c18_51 ∧
  R1 c18_51 0 1 2 (.assign (.const (.int .i64 14))) ∧
  RE c18_51 1 ∧
  Seq C c18_50 c18_51 .ret ∧
  Cond C c18_49 t38 c18_50 .skip ∧
  Seq C c18_47 c18_48 c18_49 ∧
  Seq C c18_45 c18_46 c18_47 ∧
  Seq C c18_39 c18_40 c18_45 ∧
  Blk C c18_38 3 c18_39 ∧
  Reg C c18_52 ∧
  R1 c18_52 0 1 24 (.move t5) ∧
  R1 c18_52 1 2 25 (.binOp .add 3 t24 (.const (.int .i64 1)) 3) ∧
  R1 c18_52 2 3 5 (.assign t25) ∧
  RE c18_52 3 ∧
  Seq C c18_37 c18_38 c18_52 ∧
  Seq C c18_33 c18_34 c18_37 ∧
  Lp C c18_32 c18_33 ∧
  Blk C c18_31 2 c18_32 ∧
  Seq C c18_29 c18_30 c18_31 ∧
  Reg C c18_54 ∧
  R1 c18_54 0 1 2 (.assign (.const (.int .i64 0))) ∧
  RE c18_54 1 ∧
  Seq C c18_53 c18_54 .ret ∧
  Seq C c18_28 c18_29 c18_53 ∧
  Seq C c18_26 c18_27 c18_28 ∧
  Seq C c18_9 c18_10 c18_26 ∧
  Seq C c18_3 c18_4 c18_9 ∧
  Seq C c18_1 c18_2 c18_3 :=
  ⟨reg_mk rfl, row1 rfl, rowE rfl, reg_mk rfl, row1 rfl, row1 rfl, row1 rfl, rowE rfl, reg_mk rfl, row1 rfl, rowE rfl, seq_mk rfl, cond_mk rfl, seq_mk rfl, reg_mk rfl, row1 rfl, rowE rfl, reg_mk rfl, row1 rfl, row1 rfl, row1 rfl, row1 rfl, rowE rfl, cond_mk rfl, seq_mk rfl, reg_mk rfl, row1 rfl, row1 rfl, row1 rfl, row1 rfl, row1 rfl, rowE rfl, reg_mk rfl, row1 rfl, rowE rfl, seq_mk rfl, cond_mk rfl, seq_mk rfl, blk_mk rfl, reg_mk rfl, row1 rfl, row1 rfl, row1 rfl, rowE rfl, seq_mk rfl, seq_mk rfl, lp_mk rfl, blk_mk rfl, seq_mk rfl, reg_mk rfl, row1 rfl, rowE rfl, reg_mk rfl, row1 rfl, rowE rfl, reg_mk rfl, row1 rfl, row1 rfl, row1 rfl, row1 rfl, rowE rfl, cond_mk rfl, seq_mk rfl, reg_mk rfl, row1 rfl, row1 rfl, row1 rfl, row1 rfl, row1 rfl, rowE rfl, reg_mk rfl, row1 rfl, rowE rfl, seq_mk rfl, cond_mk rfl, seq_mk rfl, reg_mk rfl, row1 rfl, row1 rfl, row1 rfl, row1 rfl, row1 rfl, row1 rfl, row1 rfl, rowE rfl, reg_mk rfl, row1 rfl, row1 rfl, rowE rfl, reg_mk rfl, row1 rfl, rowE rfl, seq_mk rfl, cond_mk rfl, seq_mk rfl, seq_mk rfl, seq_mk rfl, blk_mk rfl, reg_mk rfl, row1 rfl, row1 rfl, row1 rfl, rowE rfl, seq_mk rfl, seq_mk rfl, lp_mk rfl, blk_mk rfl, seq_mk rfl, reg_mk rfl, row1 rfl, rowE rfl, seq_mk rfl, seq_mk rfl, seq_mk rfl, seq_mk rfl, seq_mk rfl, seq_mk rfl⟩
theorem body18 : Try.f18.body = some c18_1 := rfl
/-! fluxion/fluxionref06.Count -/
noncomputable def c19_1 : Code := (Try.f19.body).getD .skip
noncomputable def c19_2 : Code := kid c19_1 0
noncomputable def c19_3 : Code := kid c19_1 1
noncomputable def c19_4 : Code := kid c19_3 0
noncomputable def c19_5 : Code := kid c19_4 0
noncomputable def c19_6 : Code := kid c19_4 1
noncomputable def c19_7 : Code := kid c19_6 0
noncomputable def c19_8 : Code := kid c19_7 0
noncomputable def c19_9 : Code := kid c19_3 1
noncomputable def c19_10 : Code := kid c19_9 0
noncomputable def c19_11 : Code := kid c19_9 1
noncomputable def c19_12 : Code := kid c19_11 0
noncomputable def c19_13 : Code := kid c19_12 0
noncomputable def c19_14 : Code := kid c19_12 1
noncomputable def c19_15 : Code := kid c19_14 0
noncomputable def c19_16 : Code := kid c19_15 0
noncomputable def c19_17 : Code := kid c19_16 0
noncomputable def c19_18 : Code := kid c19_17 0
noncomputable def c19_19 : Code := kid c19_17 1
noncomputable def c19_20 : Code := kid c19_16 1
noncomputable def c19_21 : Code := kid c19_20 0
noncomputable def c19_22 : Code := kid c19_21 0
noncomputable def c19_23 : Code := kid c19_20 1
noncomputable def c19_24 : Code := kid c19_11 1
noncomputable def c19_25 : Code := kid c19_24 0
@[go_sem] theorem w19 : Reg C c19_2 ∧
  R1 c19_2 0 1 2 (.assign (.const (.int .i64 0))) ∧
  RE c19_2 1 ∧
  Reg C c19_5 ∧
  R1 c19_5 0 1 5 (.move t0) ∧
  R1 c19_5 1 2 6 (.call ⟨.value (.func 18), #[t5], #[23]⟩) ∧
  R1 c19_5 2 3 7 (.binOp .neq 3 t6 (.const (.int .i64 0)) 3) ∧
  RE c19_5 3 ∧
  Reg C c19_8 ∧
  R1 c19_8 0 1 2 (.assign (.const (.int .i64 0))) ∧
  RE c19_8 1 ∧
  Seq C c19_7 c19_8 .ret ∧
  Cond C c19_6 t7 c19_7 .skip ∧
  Seq C c19_4 c19_5 c19_6 ∧
  Reg C c19_10 ∧
  R1 c19_10 0 1 3 (.assign (.const (.int .i64 1))) ∧
  RE c19_10 1 ∧
  Reg C c19_13 ∧
  R1 c19_13 0 1 4 (.assign (.const (.int .i64 0))) ∧
  RE c19_13 1 ∧
  Reg C c19_18 ∧
  R1 c19_18 0 1 8 (.move t4) ∧
  R1 c19_18 1 2 9 (.move t0) ∧
  R1 c19_18 2 3 10 (.call ⟨.builtin .len, #[t9], #[23]⟩) ∧
  R1 c19_18 3 4 11 (.binOp .lss 3 t8 t10 3) ∧
  RE c19_18 4 ∧
  Cond C c19_19 t11 .skip (.exit 0) ∧
  Seq C c19_17 c19_18 c19_19 ∧
  Reg C c19_22 ∧
  R1 c19_22 0 1 14 (.move t3) ∧
  R1 c19_22 1 2 15 (.move t0) ∧
  R1 c19_22 2 3 16 (.move t4) ∧
  R1 c19_22 3 4 17 (.indexAddr 23 t15 t16) ∧
  R1 c19_22 4 5 18 (.load 3 t17) ∧
  R1 c19_22 5 6 19 (.binOp .mul 3 t14 t18 3) ∧
  R1 c19_22 6 7 3 (.assign t19) ∧
  RE c19_22 7 ∧
  Blk C c19_21 1 c19_22 ∧
  Reg C c19_23 ∧
  R1 c19_23 0 1 12 (.move t4) ∧
  R1 c19_23 1 2 13 (.binOp .add 3 t12 (.const (.int .i64 1)) 3) ∧
  R1 c19_23 2 3 4 (.assign t13) ∧
  RE c19_23 3 ∧
  Seq C c19_20 c19_21 c19_23 ∧
  Seq C c19_16 c19_17 c19_20 ∧
  Lp C c19_15 c19_16 ∧
  Blk C c19_14 0 c19_15 ∧
  Seq C c19_12 c19_13 c19_14 ∧
  Reg C c19_25 ∧
  R1 c19_25 0 1 20 (.move t3) ∧
  R1 c19_25 1 2 2 (.assign t20) ∧
  RE c19_25 2 ∧
  Seq C c19_24 c19_25 .ret ∧
  Seq C c19_11 c19_12 c19_24 ∧
  Seq C c19_9 c19_10 c19_11 ∧
  Seq C c19_3 c19_4 c19_9 ∧
  Seq C c19_1 c19_2 c19_3 :=
  ⟨reg_mk rfl, row1 rfl, rowE rfl, reg_mk rfl, row1 rfl, row1 rfl, row1 rfl, rowE rfl, reg_mk rfl, row1 rfl, rowE rfl, seq_mk rfl, cond_mk rfl, seq_mk rfl, reg_mk rfl, row1 rfl, rowE rfl, reg_mk rfl, row1 rfl, rowE rfl, reg_mk rfl, row1 rfl, row1 rfl, row1 rfl, row1 rfl, rowE rfl, cond_mk rfl, seq_mk rfl, reg_mk rfl, row1 rfl, row1 rfl, row1 rfl, row1 rfl, row1 rfl, row1 rfl, row1 rfl, rowE rfl, blk_mk rfl, reg_mk rfl, row1 rfl, row1 rfl, row1 rfl, rowE rfl, seq_mk rfl, seq_mk rfl, lp_mk rfl, blk_mk rfl, seq_mk rfl, reg_mk rfl, row1 rfl, row1 rfl, rowE rfl, seq_mk rfl, seq_mk rfl, seq_mk rfl, seq_mk rfl, seq_mk rfl⟩
theorem body19 : Try.f19.body = some c19_1 := rfl
/-! fluxion/fluxionref06.has -/
noncomputable def c65_1 : Code := (Try.f65.body).getD .skip
noncomputable def c65_2 : Code := kid c65_1 0
noncomputable def c65_3 : Code := kid c65_1 1
noncomputable def c65_4 : Code := kid c65_3 0
noncomputable def c65_5 : Code := kid c65_4 0
noncomputable def c65_6 : Code := kid c65_4 1
noncomputable def c65_7 : Code := kid c65_6 0
noncomputable def c65_8 : Code := kid c65_7 0
noncomputable def c65_9 : Code := kid c65_8 0
noncomputable def c65_10 : Code := kid c65_9 0
noncomputable def c65_11 : Code := kid c65_9 1
noncomputable def c65_12 : Code := kid c65_8 1
noncomputable def c65_13 : Code := kid c65_12 0
noncomputable def c65_14 : Code := kid c65_13 0
noncomputable def c65_15 : Code := kid c65_14 0
noncomputable def c65_16 : Code := kid c65_14 1
noncomputable def c65_17 : Code := kid c65_16 0
noncomputable def c65_18 : Code := kid c65_17 0
noncomputable def c65_19 : Code := kid c65_12 1
noncomputable def c65_20 : Code := kid c65_3 1
noncomputable def c65_21 : Code := kid c65_20 0
@[go_sem] theorem w65 : Reg C c65_2 ∧
  R1 c65_2 0 1 4 (.assign (.const (.bool false))) ∧
  RE c65_2 1 ∧
  Reg C c65_5 ∧
  R1 c65_5 0 1 5 (.assign (.const (.int .i64 0))) ∧
  RE c65_5 1 ∧
  Reg C c65_10 ∧
  R1 c65_10 0 1 6 (.move t5) ∧
  R1 c65_10 1 2 7 (.move t0) ∧
  R1 c65_10 2 3 8 (.call ⟨.builtin .len, #[t7], #[23]⟩) ∧
  R1 c65_10 3 4 9 (.binOp .lss 3 t6 t8 3) ∧
  RE c65_10 4 ∧
  Cond C c65_11 t9 .skip (.exit 0) ∧
  Seq C c65_9 c65_10 c65_11 ∧
  Reg C c65_15 ∧
  R1 c65_15 0 1 12 (.move t0) ∧
  R1 c65_15 1 2 13 (.move t5) ∧
  R1 c65_15 2 3 14 (.indexAddr 23 t12 t13) ∧
  R1 c65_15 3 4 15 (.load 3 t14) ∧
  R1 c65_15 4 5 16 (.move t1) ∧
  R1 c65_15 5 6 17 (.binOp .eql 3 t15 t16 3) ∧
  RE c65_15 6 ∧
  Reg C c65_18 ∧
  R1 c65_18 0 1 4 (.assign (.const (.bool true))) ∧
  RE c65_18 1 ∧
  Seq C c65_17 c65_18 .ret ∧
  Cond C c65_16 t17 c65_17 .skip ∧
  Seq C c65_14 c65_15 c65_16 ∧
  Blk C c65_13 1 c65_14 ∧
  Reg C c65_19 ∧
  R1 c65_19 0 1 10 (.move t5) ∧
  R1 c65_19 1 2 11 (.binOp .add 3 t10 (.const (.int .i64 1)) 3) ∧
  R1 c65_19 2 3 5 (.assign t11) ∧
  RE c65_19 3 ∧
  Seq C c65_12 c65_13 c65_19 ∧
  Seq C c65_8 c65_9 c65_12 ∧
  Lp C c65_7 c65_8 ∧
  Blk C c65_6 0 c65_7 ∧
  Seq C c65_4 c65_5 c65_6 ∧
  Reg C c65_21 ∧
  R1 c65_21 0 1 4 (.assign (.const (.bool false))) ∧
  RE c65_21 1 ∧
  Seq C c65_20 c65_21 .ret ∧
  Seq C c65_3 c65_4 c65_20 ∧
  Seq C c65_1 c65_2 c65_3 :=
  ⟨reg_mk rfl, row1 rfl, rowE rfl, reg_mk rfl, row1 rfl, rowE rfl, reg_mk rfl, row1 rfl, row1 rfl, row1 rfl, row1 rfl, rowE rfl, cond_mk rfl, seq_mk rfl, reg_mk rfl, row1 rfl, row1 rfl, row1 rfl, row1 rfl, row1 rfl, row1 rfl, rowE rfl, reg_mk rfl, row1 rfl, rowE rfl, seq_mk rfl, cond_mk rfl, seq_mk rfl, blk_mk rfl, reg_mk rfl, row1 rfl, row1 rfl, row1 rfl, rowE rfl, seq_mk rfl, seq_mk rfl, lp_mk rfl, blk_mk rfl, seq_mk rfl, reg_mk rfl, row1 rfl, rowE rfl, seq_mk rfl, seq_mk rfl, seq_mk rfl⟩
theorem body65 : Try.f65.body = some c65_1 := rfl
/-! fluxion/fluxionref06.Back -/
noncomputable def c64_1 : Code := (Try.f64.body).getD .skip
noncomputable def c64_2 : Code := kid c64_1 0
noncomputable def c64_3 : Code := kid c64_1 1
noncomputable def c64_4 : Code := kid c64_3 0
noncomputable def c64_5 : Code := kid c64_4 0
noncomputable def c64_6 : Code := kid c64_4 1
noncomputable def c64_7 : Code := kid c64_6 0
noncomputable def c64_8 : Code := kid c64_7 0
noncomputable def c64_9 : Code := kid c64_3 1
noncomputable def c64_10 : Code := kid c64_9 0
@[go_sem] theorem w64 : Reg C c64_2 ∧
  R1 c64_2 0 1 4 (.assign (.const (.int .i64 0))) ∧
  RE c64_2 1 ∧
  Reg C c64_5 ∧
  R1 c64_5 0 1 5 (.move t1) ∧
  R1 c64_5 1 2 6 (.move t0) ∧
  R1 c64_5 2 3 7 (.call ⟨.builtin .len, #[t6], #[23]⟩) ∧
  R1 c64_5 3 4 8 (.binOp .gtr 3 t5 t7 3) ∧
  RE c64_5 4 ∧
  Reg C c64_8 ∧
  R1 c64_8 0 1 4 (.assign (.const (.int .i64 0))) ∧
  RE c64_8 1 ∧
  Seq C c64_7 c64_8 .ret ∧
  Cond C c64_6 t8 c64_7 .skip ∧
  Seq C c64_4 c64_5 c64_6 ∧
  Reg C c64_10 ∧
  R1 c64_10 0 1 9 (.move t0) ∧
  R1 c64_10 1 2 10 (.move t0) ∧
  R1 c64_10 2 3 11 (.call ⟨.builtin .len, #[t10], #[23]⟩) ∧
  R1 c64_10 3 4 12 (.move t1) ∧
  R1 c64_10 4 5 13 (.binOp .sub 3 t11 t12 3) ∧
  R1 c64_10 5 6 14 (.indexAddr 23 t9 t13) ∧
  R1 c64_10 6 7 15 (.load 3 t14) ∧
  R1 c64_10 7 8 4 (.assign t15) ∧
  RE c64_10 8 ∧
  Seq C c64_9 c64_10 .ret ∧
  Seq C c64_3 c64_4 c64_9 ∧
  Seq C c64_1 c64_2 c64_3 :=
  ⟨reg_mk rfl, row1 rfl, rowE rfl, reg_mk rfl, row1 rfl, row1 rfl, row1 rfl, row1 rfl, rowE rfl, reg_mk rfl, row1 rfl, rowE rfl, seq_mk rfl, cond_mk rfl, seq_mk rfl, reg_mk rfl, row1 rfl, row1 rfl, row1 rfl, row1 rfl, row1 rfl, row1 rfl, row1 rfl, row1 rfl, rowE rfl, seq_mk rfl, seq_mk rfl, seq_mk rfl⟩
theorem body64 : Try.f64.body = some c64_1 := rfl
/-! fluxion/fluxionref06.Fits -/
noncomputable def c50_1 : Code := (Try.f50.body).getD .skip
noncomputable def c50_2 : Code := kid c50_1 0
noncomputable def c50_3 : Code := kid c50_1 1
noncomputable def c50_4 : Code := kid c50_3 0
noncomputable def c50_5 : Code := kid c50_3 1
noncomputable def c50_6 : Code := kid c50_5 0
noncomputable def c50_7 : Code := kid c50_6 0
noncomputable def c50_8 : Code := kid c50_6 1
noncomputable def c50_9 : Code := kid c50_8 0
noncomputable def c50_10 : Code := kid c50_9 0
noncomputable def c50_11 : Code := kid c50_5 1
noncomputable def c50_12 : Code := kid c50_11 0
noncomputable def c50_13 : Code := kid c50_11 1
noncomputable def c50_14 : Code := kid c50_13 0
noncomputable def c50_15 : Code := kid c50_14 0
noncomputable def c50_16 : Code := kid c50_14 1
noncomputable def c50_17 : Code := kid c50_16 0
noncomputable def c50_18 : Code := kid c50_17 0
noncomputable def c50_19 : Code := kid c50_13 1
noncomputable def c50_20 : Code := kid c50_19 0
noncomputable def c50_21 : Code := kid c50_20 0
noncomputable def c50_22 : Code := kid c50_20 1
noncomputable def c50_23 : Code := kid c50_22 0
noncomputable def c50_24 : Code := kid c50_23 0
noncomputable def c50_25 : Code := kid c50_24 0
noncomputable def c50_26 : Code := kid c50_25 0
noncomputable def c50_27 : Code := kid c50_25 1
noncomputable def c50_28 : Code := kid c50_24 1
noncomputable def c50_29 : Code := kid c50_28 0
noncomputable def c50_30 : Code := kid c50_29 0
noncomputable def c50_31 : Code := kid c50_30 0
noncomputable def c50_32 : Code := kid c50_30 1
noncomputable def c50_33 : Code := kid c50_32 0
noncomputable def c50_34 : Code := kid c50_33 0
noncomputable def c50_35 : Code := kid c50_28 1
noncomputable def c50_36 : Code := kid c50_19 1
noncomputable def c50_37 : Code := kid c50_36 0
@[go_sem] theorem w50 : Reg C c50_2 ∧
  R1 c50_2 0 1 4 (.assign (.const (.int .i64 0))) ∧
  RE c50_2 1 ∧
  Reg C c50_4 ∧
  R1 c50_4 0 1 8 (.move t0) ∧
  R1 c50_4 1 2 9 (.call ⟨.value (.func 18), #[t8], #[23]⟩) ∧
  R1 c50_4 2 3 5 (.assign t9) ∧
  RE c50_4 3 ∧
  Reg C c50_7 ∧
  R1 c50_7 0 1 10 (.move t5) ∧
  R1 c50_7 1 2 11 (.binOp .neq 3 t10 (.const (.int .i64 0)) 3) ∧
  RE c50_7 2 ∧
  Reg C c50_10 ∧
  R1 c50_10 0 1 12 (.move t5) ∧
  R1 c50_10 1 2 4 (.assign t12) ∧
  RE c50_10 2 ∧
  Seq C c50_9 c50_10 .ret ∧
  Cond C c50_8 t11 c50_9 .skip ∧
  Seq C c50_6 c50_7 c50_8 ∧
  Reg C c50_12 ∧
  R1 c50_12 0 1 13 (.move t1) ∧
  R1 c50_12 1 2 14 (.call ⟨.value (.func 18), #[t13], #[23]⟩) ∧
  R1 c50_12 2 3 6 (.assign t14) ∧
  RE c50_12 3 ∧
  Reg C c50_15 ∧
  R1 c50_15 0 1 15 (.move t6) ∧
  R1 c50_15 1 2 16 (.binOp .neq 3 t15 (.const (.int .i64 0)) 3) ∧
  RE c50_15 2 ∧
  Reg C c50_18 ∧
  R1 c50_18 0 1 17 (.move t6) ∧
  R1 c50_18 1 2 4 (.assign t17) ∧
  RE c50_18 2 ∧
  Seq C c50_17 c50_18 .ret ∧
  Cond C c50_16 t16 c50_17 .skip ∧
  Seq C c50_14 c50_15 c50_16 ∧
  Reg C c50_21 ∧
  R1 c50_21 0 1 7 (.assign (.const (.int .i64 1))) ∧
  RE c50_21 1 ∧
  Reg C c50_26 ∧
  R1 c50_26 0 1 18 (.move t7) ∧
  R1 c50_26 1 2 19 (.move t0) ∧
  R1 c50_26 2 3 20 (.call ⟨.builtin .len, #[t19], #[23]⟩) ∧
  R1 c50_26 3 4 21 (.binOp .leq 3 t18 t20 3) ∧
  RE c50_26 4 ∧
  Cond C c50_27 t21 .skip (.exit 0) ∧
  Seq C c50_25 c50_26 c50_27 ∧
  Reg C c50_31 ∧
  R1 c50_31 0 1 24 (.move t1) ∧
  R1 c50_31 1 2 25 (.move t7) ∧
  R1 c50_31 2 3 26 (.call ⟨.value (.func 64), #[t24, t25], #[23, 3]⟩) ∧
  R1 c50_31 3 4 27 (.binOp .eql 3 t26 (.const (.int .i64 0)) 3) ∧
  R1 c50_31 4 5 28 (.move t27) ∧
  RG c50_31 5 6 (some 29) (.move t0) 28 false ∧
  RG c50_31 6 7 (some 30) (.move t7) 28 false ∧
  RG c50_31 7 8 (some 31) (.call ⟨.value (.func 64), #[t29, t30], #[23, 3]⟩) 28 false ∧
  RG c50_31 8 9 (some 32) (.binOp .neq 3 t31 (.const (.int .i64 1)) 3) 28 false ∧
  RG c50_31 9 10 (some 33) (.move t32) 28 false ∧
  RG c50_31 10 11 (some 34) (.move t0) 33 true ∧
  RG c50_31 11 12 (some 35) (.move t7) 33 true ∧
  RG c50_31 12 13 (some 36) (.call ⟨.value (.func 64), #[t34, t35], #[23, 3]⟩) 33 true ∧
  RG c50_31 13 14 (some 37) (.move t1) 33 true ∧
  RG c50_31 14 15 (some 38) (.move t7) 33 true ∧
  RG c50_31 15 16 (some 39) (.call ⟨.value (.func 64), #[t37, t38], #[23, 3]⟩) 33 true ∧
  RG c50_31 16 17 (some 40) (.binOp .neq 3 t36 t39 3) 33 true ∧
  RG c50_31 17 18 (some 41) (.pick t33 t40 (.const (.bool false))) 28 false ∧
  R1 c50_31 18 19 42 (.pick t28 (.const (.bool true)) t41) ∧
  RE c50_31 19 ∧
  Reg C c50_34 ∧
  R1 c50_34 0 1 4 (.assign (.const (.int .i64 13))) ∧
  RE c50_34 1 ∧
  Seq C c50_33 c50_34 .ret ∧
  Cond C c50_32 t42 c50_33 .skip ∧
  Seq C c50_30 c50_31 c50_32 ∧
  Blk C c50_29 1 c50_30 ∧
  Reg C c50_35 ∧
  R1 c50_35 0 1 22 (.move t7) ∧
  R1 c50_35 1 2 23 (.binOp .add 3 t22 (.const (.int .i64 1)) 3) ∧
  R1 c50_35 2 3 7 (.assign t23) ∧
  RE c50_35 3 ∧
  Seq C c50_28 c50_29 c50_35 ∧
  Seq C c50_24 c50_25 c50_28 ∧
  Lp C c50_23 c50_24 ∧
  Blk C c50_22 0 c50_23 ∧
  Seq C c50_20 c50_21 c50_22 ∧
  Reg C c50_37 ∧
  R1 c50_37 0 1 4 (.assign (.const (.int .i64 0))) ∧
  RE c50_37 1 ∧
  Seq C c50_36 c50_37 .ret ∧
  Seq C c50_19 c50_20 c50_36 ∧
  Seq C c50_13 c50_14 c50_19 ∧
  Seq C c50_11 c50_12 c50_13 ∧
  Seq C c50_5 c50_6 c50_11 ∧
  Seq C c50_3 c50_4 c50_5 ∧
  Seq C c50_1 c50_2 c50_3 :=
  ⟨reg_mk rfl, row1 rfl, rowE rfl, reg_mk rfl, row1 rfl, row1 rfl, row1 rfl, rowE rfl, reg_mk rfl, row1 rfl, row1 rfl, rowE rfl, reg_mk rfl, row1 rfl, row1 rfl, rowE rfl, seq_mk rfl, cond_mk rfl, seq_mk rfl, reg_mk rfl, row1 rfl, row1 rfl, row1 rfl, rowE rfl, reg_mk rfl, row1 rfl, row1 rfl, rowE rfl, reg_mk rfl, row1 rfl, row1 rfl, rowE rfl, seq_mk rfl, cond_mk rfl, seq_mk rfl, reg_mk rfl, row1 rfl, rowE rfl, reg_mk rfl, row1 rfl, row1 rfl, row1 rfl, row1 rfl, rowE rfl, cond_mk rfl, seq_mk rfl, reg_mk rfl, row1 rfl, row1 rfl, row1 rfl, row1 rfl, row1 rfl, rowG rfl rfl, rowG rfl rfl, rowG rfl rfl, rowG rfl rfl, rowG rfl rfl, rowG rfl rfl, rowG rfl rfl, rowG rfl rfl, rowG rfl rfl, rowG rfl rfl, rowG rfl rfl, rowG rfl rfl, rowG rfl rfl, row1 rfl, rowE rfl, reg_mk rfl, row1 rfl, rowE rfl, seq_mk rfl, cond_mk rfl, seq_mk rfl, blk_mk rfl, reg_mk rfl, row1 rfl, row1 rfl, row1 rfl, rowE rfl, seq_mk rfl, seq_mk rfl, lp_mk rfl, blk_mk rfl, seq_mk rfl, reg_mk rfl, row1 rfl, rowE rfl, seq_mk rfl, seq_mk rfl, seq_mk rfl, seq_mk rfl, seq_mk rfl, seq_mk rfl, seq_mk rfl⟩
theorem body50 : Try.f50.body = some c50_1 := rfl
/-! fluxion/fluxionref06.Drop -/
noncomputable def c51_1 : Code := (Try.f51.body).getD .skip
noncomputable def c51_2 : Code := kid c51_1 0
noncomputable def c51_3 : Code := kid c51_1 1
noncomputable def c51_4 : Code := kid c51_3 0
noncomputable def c51_5 : Code := kid c51_3 1
noncomputable def c51_6 : Code := kid c51_5 0
noncomputable def c51_7 : Code := kid c51_6 0
noncomputable def c51_8 : Code := kid c51_6 1
noncomputable def c51_9 : Code := kid c51_8 0
noncomputable def c51_10 : Code := kid c51_9 0
noncomputable def c51_11 : Code := kid c51_10 0
noncomputable def c51_12 : Code := kid c51_11 0
noncomputable def c51_13 : Code := kid c51_11 1
noncomputable def c51_14 : Code := kid c51_10 1
noncomputable def c51_15 : Code := kid c51_14 0
noncomputable def c51_16 : Code := kid c51_15 0
noncomputable def c51_17 : Code := kid c51_16 0
noncomputable def c51_18 : Code := kid c51_16 1
noncomputable def c51_19 : Code := kid c51_18 0
noncomputable def c51_20 : Code := kid c51_14 1
noncomputable def c51_21 : Code := kid c51_5 1
noncomputable def c51_22 : Code := kid c51_21 0
@[go_sem] theorem w51 : Reg C c51_2 ∧
  R1 c51_2 0 1 4 (.assign (.const (.slice none 0 0))) ∧
  RE c51_2 1 ∧
  Reg C c51_4 ∧
  R1 c51_4 0 1 5 (.assign (.const (.slice none 0 0))) ∧
  RE c51_4 1 ∧
  Reg C c51_7 ∧
  R1 c51_7 0 1 6 (.assign (.const (.int .i64 0))) ∧
  RE c51_7 1 ∧
  Reg C c51_12 ∧
  R1 c51_12 0 1 7 (.move t6) ∧
  R1 c51_12 1 2 8 (.move t0) ∧
  R1 c51_12 2 3 9 (.call ⟨.builtin .len, #[t8], #[23]⟩) ∧
  R1 c51_12 3 4 10 (.binOp .lss 3 t7 t9 3) ∧
  RE c51_12 4 ∧
  Cond C c51_13 t10 .skip (.exit 0) ∧
  Seq C c51_11 c51_12 c51_13 ∧
  Reg C c51_17 ∧
  R1 c51_17 0 1 13 (.move t1) ∧
  R1 c51_17 1 2 14 (.move t6) ∧
  R1 c51_17 2 3 15 (.call ⟨.value (.func 65), #[t13, t14], #[23, 3]⟩) ∧
  R1 c51_17 3 4 16 (.unOp .not 4 t15) ∧
  RE c51_17 4 ∧
  Reg C c51_19 ∧
  R1 c51_19 0 1 17 (.move t5) ∧
  R1 c51_19 1 2 18 (.move t0) ∧
  R1 c51_19 2 3 19 (.move t6) ∧
  R1 c51_19 3 4 20 (.indexAddr 23 t18 t19) ∧
  R1 c51_19 4 5 21 (.load 3 t20) ∧
  R1 c51_19 5 6 22 (.buildSlice 23 1 #[(0, t21)]) ∧
  R1 c51_19 6 7 23 (.call ⟨.builtin .append, #[t17, t22], #[23, 23]⟩) ∧
  R1 c51_19 7 8 5 (.assign t23) ∧
  RE c51_19 8 ∧
  Cond C c51_18 t16 c51_19 .skip ∧
  Seq C c51_16 c51_17 c51_18 ∧
  Blk C c51_15 1 c51_16 ∧
  Reg C c51_20 ∧
  R1 c51_20 0 1 11 (.move t6) ∧
  R1 c51_20 1 2 12 (.binOp .add 3 t11 (.const (.int .i64 1)) 3) ∧
  R1 c51_20 2 3 6 (.assign t12) ∧
  RE c51_20 3 ∧
  Seq C c51_14 c51_15 c51_20 ∧
  Seq C c51_10 c51_11 c51_14 ∧
  Lp C c51_9 c51_10 ∧
  Blk C c51_8 0 c51_9 ∧
  Seq C c51_6 c51_7 c51_8 ∧
  Reg C c51_22 ∧
  R1 c51_22 0 1 24 (.move t5) ∧
  R1 c51_22 1 2 4 (.assign t24) ∧
  RE c51_22 2 ∧
  Seq C c51_21 c51_22 .ret ∧
  Seq C c51_5 c51_6 c51_21 ∧
  Seq C c51_3 c51_4 c51_5 ∧
  Seq C c51_1 c51_2 c51_3 :=
  ⟨reg_mk rfl, row1 rfl, rowE rfl, reg_mk rfl, row1 rfl, rowE rfl, reg_mk rfl, row1 rfl, rowE rfl, reg_mk rfl, row1 rfl, row1 rfl, row1 rfl, row1 rfl, rowE rfl, cond_mk rfl, seq_mk rfl, reg_mk rfl, row1 rfl, row1 rfl, row1 rfl, row1 rfl, rowE rfl, reg_mk rfl, row1 rfl, row1 rfl, row1 rfl, row1 rfl, row1 rfl, row1 rfl, row1 rfl, row1 rfl, rowE rfl, cond_mk rfl, seq_mk rfl, blk_mk rfl, reg_mk rfl, row1 rfl, row1 rfl, row1 rfl, rowE rfl, seq_mk rfl, seq_mk rfl, lp_mk rfl, blk_mk rfl, seq_mk rfl, reg_mk rfl, row1 rfl, row1 rfl, rowE rfl, seq_mk rfl, seq_mk rfl, seq_mk rfl, seq_mk rfl⟩
theorem body51 : Try.f51.body = some c51_1 := rfl
/-! fluxion/fluxionref11.In -/
noncomputable def c15_1 : Code := (Try.f15.body).getD .skip
noncomputable def c15_2 : Code := kid c15_1 0
noncomputable def c15_3 : Code := kid c15_1 1
noncomputable def c15_4 : Code := kid c15_3 0
noncomputable def c15_5 : Code := kid c15_4 0
noncomputable def c15_6 : Code := kid c15_4 1
noncomputable def c15_7 : Code := kid c15_6 0
noncomputable def c15_8 : Code := kid c15_7 0
noncomputable def c15_9 : Code := kid c15_3 1
noncomputable def c15_10 : Code := kid c15_9 0
noncomputable def c15_11 : Code := kid c15_10 0
noncomputable def c15_12 : Code := kid c15_10 1
noncomputable def c15_13 : Code := kid c15_12 0
noncomputable def c15_14 : Code := kid c15_13 0
noncomputable def c15_15 : Code := kid c15_13 1
noncomputable def c15_16 : Code := kid c15_15 0
noncomputable def c15_17 : Code := kid c15_16 0
noncomputable def c15_18 : Code := kid c15_15 1
noncomputable def c15_19 : Code := kid c15_18 0
noncomputable def c15_20 : Code := kid c15_19 0
noncomputable def c15_21 : Code := kid c15_19 1
noncomputable def c15_22 : Code := kid c15_21 1
noncomputable def c15_23 : Code := kid c15_18 1
noncomputable def c15_24 : Code := kid c15_23 0
noncomputable def c15_25 : Code := kid c15_24 0
noncomputable def c15_26 : Code := kid c15_23 1
noncomputable def c15_27 : Code := kid c15_26 0
noncomputable def c15_28 : Code := kid c15_27 0
noncomputable def c15_29 : Code := kid c15_27 1
noncomputable def c15_30 : Code := kid c15_29 1
noncomputable def c15_31 : Code := kid c15_26 1
noncomputable def c15_32 : Code := kid c15_31 0
noncomputable def c15_33 : Code := kid c15_32 0
noncomputable def c15_34 : Code := kid c15_9 1
noncomputable def c15_35 : Code := kid c15_34 0
@[go_sem] theorem w15 : Reg C c15_2 ∧
  R1 c15_2 0 1 4 (.assign (.const (.bool false))) ∧
  RE c15_2 1 ∧
  Reg C c15_5 ∧
  R1 c15_5 0 1 5 (.move t0) ∧
  R1 c15_5 1 2 6 (.binOp .lss 22 t5 (.const (.int .i64 1)) 22) ∧
  R1 c15_5 2 3 7 (.move t6) ∧
  RG c15_5 3 4 (some 8) (.move t0) 7 false ∧
  RG c15_5 4 5 (some 9) (.binOp .gtr 22 t8 (.const (.int .i64 20)) 22) 7 false ∧
  R1 c15_5 5 6 10 (.pick t7 (.const (.bool true)) t9) ∧
  R1 c15_5 6 7 11 (.move t10) ∧
  RG c15_5 7 8 (some 12) (.move t1) 11 false ∧
  RG c15_5 8 9 (some 13) (.binOp .lss 3 t12 (.const (.int .i64 1)) 3) 11 false ∧
  R1 c15_5 9 10 14 (.pick t11 (.const (.bool true)) t13) ∧
  R1 c15_5 10 11 15 (.move t14) ∧
  RG c15_5 11 12 (some 16) (.move t1) 15 false ∧
  RG c15_5 12 13 (some 17) (.binOp .gtr 3 t16 (.const (.int .i64 3)) 3) 15 false ∧
  R1 c15_5 13 14 18 (.pick t15 (.const (.bool true)) t17) ∧
  RE c15_5 14 ∧
  Reg C c15_8 ∧
  R1 c15_8 0 1 4 (.assign (.const (.bool false))) ∧
  RE c15_8 1 ∧
  Seq C c15_7 c15_8 .ret ∧
  Cond C c15_6 t18 c15_7 .skip ∧
  Seq C c15_4 c15_5 c15_6 ∧
  Reg C c15_11 ∧
  R1 c15_11 0 1 19 (.move t0) ∧
  RE c15_11 1 ∧
  Reg C c15_14 ∧
  R1 c15_14 0 1 21 (.binOp .eql 22 t19 (.const (.int .i64 18)) 22) ∧
  R1 c15_14 1 2 20 (.assign t21) ∧
  RE c15_14 2 ∧
  Reg C c15_17 ∧
  R1 c15_17 0 1 22 (.move t1) ∧
  R1 c15_17 1 2 23 (.binOp .eql 3 t22 (.const (.int .i64 1)) 3) ∧
  R1 c15_17 2 3 4 (.assign t23) ∧
  RE c15_17 3 ∧
  Seq C c15_16 c15_17 .ret ∧
  Reg C c15_20 ∧
  R1 c15_20 0 1 25 (.binOp .eql 22 t19 (.const (.int .i64 19)) 22) ∧
  R1 c15_20 1 2 24 (.assign t25) ∧
  RE c15_20 2 ∧
  Reg C c15_22 ∧
  R1 c15_22 0 1 26 (.binOp .eql 22 t19 (.const (.int .i64 20)) 22) ∧
  R1 c15_22 1 2 24 (.assign t26) ∧
  RE c15_22 2 ∧
  Cond C c15_21 t24 .skip c15_22 ∧
  Seq C c15_19 c15_20 c15_21 ∧
  Reg C c15_25 ∧
  R1 c15_25 0 1 27 (.move t1) ∧
  R1 c15_25 1 2 28 (.binOp .lss 3 t27 (.const (.int .i64 3)) 3) ∧
  R1 c15_25 2 3 4 (.assign t28) ∧
  RE c15_25 3 ∧
  Seq C c15_24 c15_25 .ret ∧
  Reg C c15_28 ∧
  R1 c15_28 0 1 30 (.binOp .eql 22 t19 (.const (.int .i64 8)) 22) ∧
  R1 c15_28 1 2 29 (.assign t30) ∧
  RE c15_28 2 ∧
  Reg C c15_30 ∧
  R1 c15_30 0 1 31 (.binOp .eql 22 t19 (.const (.int .i64 9)) 22) ∧
  R1 c15_30 1 2 29 (.assign t31) ∧
  RE c15_30 2 ∧
  Cond C c15_29 t29 .skip c15_30 ∧
  Seq C c15_27 c15_28 c15_29 ∧
  Reg C c15_33 ∧
  R1 c15_33 0 1 32 (.move t1) ∧
  R1 c15_33 1 2 33 (.binOp .eql 3 t32 (.const (.int .i64 3)) 3) ∧
  R1 c15_33 2 3 4 (.assign t33) ∧
  RE c15_33 3 ∧
  Seq C c15_32 c15_33 .ret ∧
  Cond C c15_31 t29 c15_32 .skip ∧
  Seq C c15_26 c15_27 c15_31 ∧
  Cond C c15_23 t24 c15_24 c15_26 ∧
  Seq C c15_18 c15_19 c15_23 ∧
  Cond C c15_15 t20 c15_16 c15_18 ∧
  Seq C c15_13 c15_14 c15_15 ∧
  Blk C c15_12 0 c15_13 ∧
  Seq C c15_10 c15_11 c15_12 ∧
  Reg C c15_35 ∧
  R1 c15_35 0 1 4 (.assign (.const (.bool true))) ∧
  RE c15_35 1 ∧
  Seq C c15_34 c15_35 .ret ∧
  Seq C c15_9 c15_10 c15_34 ∧
  Seq C c15_3 c15_4 c15_9 ∧
  Seq C c15_1 c15_2 c15_3 :=
  ⟨reg_mk rfl, row1 rfl, rowE rfl, reg_mk rfl, row1 rfl, row1 rfl, row1 rfl, rowG rfl rfl, rowG rfl rfl, row1 rfl, row1 rfl, rowG rfl rfl, rowG rfl rfl, row1 rfl, row1 rfl, rowG rfl rfl, rowG rfl rfl, row1 rfl, rowE rfl, reg_mk rfl, row1 rfl, rowE rfl, seq_mk rfl, cond_mk rfl, seq_mk rfl, reg_mk rfl, row1 rfl, rowE rfl, reg_mk rfl, row1 rfl, row1 rfl, rowE rfl, reg_mk rfl, row1 rfl, row1 rfl, row1 rfl, rowE rfl, seq_mk rfl, reg_mk rfl, row1 rfl, row1 rfl, rowE rfl, reg_mk rfl, row1 rfl, row1 rfl, rowE rfl, cond_mk rfl, seq_mk rfl, reg_mk rfl, row1 rfl, row1 rfl, row1 rfl, rowE rfl, seq_mk rfl, reg_mk rfl, row1 rfl, row1 rfl, rowE rfl, reg_mk rfl, row1 rfl, row1 rfl, rowE rfl, cond_mk rfl, seq_mk rfl, reg_mk rfl, row1 rfl, row1 rfl, row1 rfl, rowE rfl, seq_mk rfl, cond_mk rfl, seq_mk rfl, cond_mk rfl, seq_mk rfl, cond_mk rfl, seq_mk rfl, blk_mk rfl, seq_mk rfl, reg_mk rfl, row1 rfl, rowE rfl, seq_mk rfl, seq_mk rfl, seq_mk rfl, seq_mk rfl⟩
theorem body15 : Try.f15.body = some c15_1 := rfl
/-! fluxion/fluxionref11.None -/
noncomputable def c17_1 : Code := (Try.f17.body).getD .skip
noncomputable def c17_2 : Code := kid c17_1 0
noncomputable def c17_3 : Code := kid c17_1 1
noncomputable def c17_4 : Code := kid c17_3 0
noncomputable def c17_5 : Code := kid c17_4 0
noncomputable def c17_6 : Code := kid c17_4 1
noncomputable def c17_7 : Code := kid c17_6 0
noncomputable def c17_8 : Code := kid c17_7 0
noncomputable def c17_9 : Code := kid c17_8 0
noncomputable def c17_10 : Code := kid c17_8 1
noncomputable def c17_11 : Code := kid c17_10 1
noncomputable def c17_12 : Code := kid c17_11 0
noncomputable def c17_13 : Code := kid c17_11 1
noncomputable def c17_14 : Code := kid c17_13 1
noncomputable def c17_15 : Code := kid c17_7 1
noncomputable def c17_16 : Code := kid c17_15 0
noncomputable def c17_17 : Code := kid c17_16 0
noncomputable def c17_18 : Code := kid c17_15 1
noncomputable def c17_19 : Code := kid c17_18 0
noncomputable def c17_20 : Code := kid c17_19 0
noncomputable def c17_21 : Code := kid c17_19 1
noncomputable def c17_22 : Code := kid c17_21 1
noncomputable def c17_23 : Code := kid c17_18 1
noncomputable def c17_24 : Code := kid c17_23 0
noncomputable def c17_25 : Code := kid c17_24 0
noncomputable def c17_26 : Code := kid c17_3 1
noncomputable def c17_27 : Code := kid c17_26 0
@[go_sem] theorem w17 : Reg C c17_2 ∧
  R1 c17_2 0 1 4 (.assign (.const (.bool false))) ∧
  RE c17_2 1 ∧
  Reg C c17_5 ∧
  R1 c17_5 0 1 5 (.move t1) ∧
  RE c17_5 1 ∧
  Reg C c17_9 ∧
  R1 c17_9 0 1 7 (.binOp .eql 22 t5 (.const (.int .i64 6)) 22) ∧
  R1 c17_9 1 2 6 (.assign t7) ∧
  RE c17_9 2 ∧
  Reg C c17_12 ∧
  R1 c17_12 0 1 8 (.binOp .eql 22 t5 (.const (.int .i64 11)) 22) ∧
  R1 c17_12 1 2 6 (.assign t8) ∧
  RE c17_12 2 ∧
  Reg C c17_14 ∧
  R1 c17_14 0 1 9 (.binOp .eql 22 t5 (.const (.int .i64 17)) 22) ∧
  R1 c17_14 1 2 6 (.assign t9) ∧
  RE c17_14 2 ∧
  Cond C c17_13 t6 .skip c17_14 ∧
  Seq C c17_11 c17_12 c17_13 ∧
  Cond C c17_10 t6 .skip c17_11 ∧
  Seq C c17_8 c17_9 c17_10 ∧
  Reg C c17_17 ∧
  R1 c17_17 0 1 10 (.move t0) ∧
  R1 c17_17 1 2 11 (.binOp .eql 3 t10 (.const (.int .i64 1)) 3) ∧
  R1 c17_17 2 3 4 (.assign t11) ∧
  RE c17_17 3 ∧
  Seq C c17_16 c17_17 .ret ∧
  Reg C c17_20 ∧
  R1 c17_20 0 1 13 (.binOp .eql 22 t5 (.const (.int .i64 14)) 22) ∧
  R1 c17_20 1 2 12 (.assign t13) ∧
  RE c17_20 2 ∧
  Reg C c17_22 ∧
  R1 c17_22 0 1 14 (.binOp .eql 22 t5 (.const (.int .i64 20)) 22) ∧
  R1 c17_22 1 2 12 (.assign t14) ∧
  RE c17_22 2 ∧
  Cond C c17_21 t12 .skip c17_22 ∧
  Seq C c17_19 c17_20 c17_21 ∧
  Reg C c17_25 ∧
  R1 c17_25 0 1 15 (.move t0) ∧
  R1 c17_25 1 2 16 (.binOp .lss 3 t15 (.const (.int .i64 3)) 3) ∧
  R1 c17_25 2 3 4 (.assign t16) ∧
  RE c17_25 3 ∧
  Seq C c17_24 c17_25 .ret ∧
  Cond C c17_23 t12 c17_24 .skip ∧
  Seq C c17_18 c17_19 c17_23 ∧
  Cond C c17_15 t6 c17_16 c17_18 ∧
  Seq C c17_7 c17_8 c17_15 ∧
  Blk C c17_6 0 c17_7 ∧
  Seq C c17_4 c17_5 c17_6 ∧
  Reg C c17_27 ∧
  R1 c17_27 0 1 4 (.assign (.const (.bool false))) ∧
  RE c17_27 1 ∧
  Seq C c17_26 c17_27 .ret ∧
  Seq C c17_3 c17_4 c17_26 ∧
  Seq C c17_1 c17_2 c17_3 :=
  ⟨reg_mk rfl, row1 rfl, rowE rfl, reg_mk rfl, row1 rfl, rowE rfl, reg_mk rfl, row1 rfl, row1 rfl, rowE rfl, reg_mk rfl, row1 rfl, row1 rfl, rowE rfl, reg_mk rfl, row1 rfl, row1 rfl, rowE rfl, cond_mk rfl, seq_mk rfl, cond_mk rfl, seq_mk rfl, reg_mk rfl, row1 rfl, row1 rfl, row1 rfl, rowE rfl, seq_mk rfl, reg_mk rfl, row1 rfl, row1 rfl, rowE rfl, reg_mk rfl, row1 rfl, row1 rfl, rowE rfl, cond_mk rfl, seq_mk rfl, reg_mk rfl, row1 rfl, row1 rfl, row1 rfl, rowE rfl, seq_mk rfl, cond_mk rfl, seq_mk rfl, cond_mk rfl, seq_mk rfl, blk_mk rfl, seq_mk rfl, reg_mk rfl, row1 rfl, rowE rfl, seq_mk rfl, seq_mk rfl, seq_mk rfl⟩
theorem body17 : Try.f17.body = some c17_1 := rfl
/-! fluxion/fluxionref11.Arity -/
noncomputable def c27_1 : Code := (Try.f27.body).getD .skip
noncomputable def c27_2 : Code := kid c27_1 0
noncomputable def c27_3 : Code := kid c27_1 1
noncomputable def c27_4 : Code := kid c27_3 0
noncomputable def c27_5 : Code := kid c27_4 0
noncomputable def c27_6 : Code := kid c27_4 1
noncomputable def c27_7 : Code := kid c27_6 0
noncomputable def c27_8 : Code := kid c27_7 0
noncomputable def c27_9 : Code := kid c27_8 0
noncomputable def c27_10 : Code := kid c27_8 1
noncomputable def c27_11 : Code := kid c27_10 1
noncomputable def c27_12 : Code := kid c27_11 0
noncomputable def c27_13 : Code := kid c27_11 1
noncomputable def c27_14 : Code := kid c27_13 1
noncomputable def c27_15 : Code := kid c27_14 0
noncomputable def c27_16 : Code := kid c27_14 1
noncomputable def c27_17 : Code := kid c27_16 1
noncomputable def c27_18 : Code := kid c27_17 0
noncomputable def c27_19 : Code := kid c27_17 1
noncomputable def c27_20 : Code := kid c27_19 1
noncomputable def c27_21 : Code := kid c27_7 1
noncomputable def c27_22 : Code := kid c27_21 0
noncomputable def c27_23 : Code := kid c27_22 0
noncomputable def c27_24 : Code := kid c27_21 1
noncomputable def c27_25 : Code := kid c27_24 0
noncomputable def c27_26 : Code := kid c27_24 1
noncomputable def c27_27 : Code := kid c27_26 0
noncomputable def c27_28 : Code := kid c27_27 0
noncomputable def c27_29 : Code := kid c27_26 1
noncomputable def c27_30 : Code := kid c27_29 0
noncomputable def c27_31 : Code := kid c27_29 1
noncomputable def c27_32 : Code := kid c27_31 0
noncomputable def c27_33 : Code := kid c27_32 0
noncomputable def c27_34 : Code := kid c27_3 1
noncomputable def c27_35 : Code := kid c27_34 0
noncomputable def c27_36 : Code := kid c27_35 0
noncomputable def c27_37 : Code := kid c27_35 1
noncomputable def c27_38 : Code := kid c27_37 0
noncomputable def c27_39 : Code := kid c27_38 0
noncomputable def c27_40 : Code := kid c27_34 1
noncomputable def c27_41 : Code := kid c27_40 0
@[go_sem] theorem w27 : Reg C c27_2 ∧
  R1 c27_2 0 1 2 (.assign (.const (.int .i64 0))) ∧
  R1 c27_2 1 2 3 (.assign (.const (.int .i64 0))) ∧
  RE c27_2 2 ∧
  Reg C c27_5 ∧
  R1 c27_5 0 1 4 (.move t0) ∧
  RE c27_5 1 ∧
  Reg C c27_9 ∧
  R1 c27_9 0 1 6 (.binOp .eql 22 t4 (.const (.int .i64 1)) 22) ∧
  R1 c27_9 1 2 5 (.assign t6) ∧
  RE c27_9 2 ∧
  Reg C c27_12 ∧
  R1 c27_12 0 1 7 (.binOp .eql 22 t4 (.const (.int .i64 2)) 22) ∧
  R1 c27_12 1 2 5 (.assign t7) ∧
  RE c27_12 2 ∧
  Reg C c27_15 ∧
  R1 c27_15 0 1 8 (.binOp .eql 22 t4 (.const (.int .i64 3)) 22) ∧
  R1 c27_15 1 2 5 (.assign t8) ∧
  RE c27_15 2 ∧
  Reg C c27_18 ∧
  R1 c27_18 0 1 9 (.binOp .eql 22 t4 (.const (.int .i64 4)) 22) ∧
  R1 c27_18 1 2 5 (.assign t9) ∧
  RE c27_18 2 ∧
  Reg C c27_20 ∧
  R1 c27_20 0 1 10 (.binOp .eql 22 t4 (.const (.int .i64 10)) 22) ∧
  R1 c27_20 1 2 5 (.assign t10) ∧
  RE c27_20 2 ∧
  Cond C c27_19 t5 .skip c27_20 ∧
  Seq C c27_17 c27_18 c27_19 ∧
  Cond C c27_16 t5 .skip c27_17 ∧
  Seq C c27_14 c27_15 c27_16 ∧
  Cond C c27_13 t5 .skip c27_14 ∧
  Seq C c27_11 c27_12 c27_13 ∧
  Cond C c27_10 t5 .skip c27_11 ∧
  Seq C c27_8 c27_9 c27_10 ∧
  Reg C c27_23 ∧
  R1 c27_23 0 1 2 (.assign (.const (.int .i64 2))) ∧
  R1 c27_23 1 2 3 (.assign (.const (.int .i64 2))) ∧
  RE c27_23 2 ∧
  Seq C c27_22 c27_23 .ret ∧
  Reg C c27_25 ∧
  R1 c27_25 0 1 12 (.binOp .eql 22 t4 (.const (.int .i64 19)) 22) ∧
  R1 c27_25 1 2 11 (.assign t12) ∧
  RE c27_25 2 ∧
  Reg C c27_28 ∧
  R1 c27_28 0 1 2 (.assign (.const (.int .i64 3))) ∧
  R1 c27_28 1 2 3 (.assign (.const (.int .i64 3))) ∧
  RE c27_28 2 ∧
  Seq C c27_27 c27_28 .ret ∧
  Reg C c27_30 ∧
  R1 c27_30 0 1 14 (.binOp .eql 22 t4 (.const (.int .i64 17)) 22) ∧
  R1 c27_30 1 2 13 (.assign t14) ∧
  RE c27_30 2 ∧
  Reg C c27_33 ∧
  R1 c27_33 0 1 2 (.assign (.const (.int .i64 1))) ∧
  R1 c27_33 1 2 3 (.assign (.const (.int .i64 8))) ∧
  RE c27_33 2 ∧
  Seq C c27_32 c27_33 .ret ∧
  Cond C c27_31 t13 c27_32 .skip ∧
  Seq C c27_29 c27_30 c27_31 ∧
  Cond C c27_26 t11 c27_27 c27_29 ∧
  Seq C c27_24 c27_25 c27_26 ∧
  Cond C c27_21 t5 c27_22 c27_24 ∧
  Seq C c27_7 c27_8 c27_21 ∧
  Blk C c27_6 0 c27_7 ∧
  Seq C c27_4 c27_5 c27_6 ∧
  Reg C c27_36 ∧
  R1 c27_36 0 1 15 (.move t0) ∧
  R1 c27_36 1 2 16 (.binOp .lss 22 t15 (.const (.int .i64 1)) 22) ∧
  R1 c27_36 2 3 17 (.move t16) ∧
  RG c27_36 3 4 (some 18) (.move t0) 17 false ∧
  RG c27_36 4 5 (some 19) (.binOp .gtr 22 t18 (.const (.int .i64 20)) 22) 17 false ∧
  R1 c27_36 5 6 20 (.pick t17 (.const (.bool true)) t19) ∧
  RE c27_36 6 ∧
  Reg C c27_39 ∧
  R1 c27_39 0 1 2 (.assign (.const (.int .i64 0))) ∧
  R1 c27_39 1 2 3 (.assign (.const (.int .i64 0))) ∧
  RE c27_39 2 ∧
  Seq C c27_38 c27_39 .ret ∧
  Cond C c27_37 t20 c27_38 .skip ∧
  Seq C c27_35 c27_36 c27_37 ∧
  Reg C c27_41 ∧
  R1 c27_41 0 1 2 (.assign (.const (.int .i64 1))) ∧
  R1 c27_41 1 2 3 (.assign (.const (.int .i64 1))) ∧
  RE c27_41 2 ∧
  Seq C c27_40 c27_41 .ret ∧
  Seq C c27_34 c27_35 c27_40 ∧
  Seq C c27_3 c27_4 c27_34 ∧
  Seq C c27_1 c27_2 c27_3 :=
  ⟨reg_mk rfl, row1 rfl, row1 rfl, rowE rfl, reg_mk rfl, row1 rfl, rowE rfl, reg_mk rfl, row1 rfl, row1 rfl, rowE rfl, reg_mk rfl, row1 rfl, row1 rfl, rowE rfl, reg_mk rfl, row1 rfl, row1 rfl, rowE rfl, reg_mk rfl, row1 rfl, row1 rfl, rowE rfl, reg_mk rfl, row1 rfl, row1 rfl, rowE rfl, cond_mk rfl, seq_mk rfl, cond_mk rfl, seq_mk rfl, cond_mk rfl, seq_mk rfl, cond_mk rfl, seq_mk rfl, reg_mk rfl, row1 rfl, row1 rfl, rowE rfl, seq_mk rfl, reg_mk rfl, row1 rfl, row1 rfl, rowE rfl, reg_mk rfl, row1 rfl, row1 rfl, rowE rfl, seq_mk rfl, reg_mk rfl, row1 rfl, row1 rfl, rowE rfl, reg_mk rfl, row1 rfl, row1 rfl, rowE rfl, seq_mk rfl, cond_mk rfl, seq_mk rfl, cond_mk rfl, seq_mk rfl, cond_mk rfl, seq_mk rfl, blk_mk rfl, seq_mk rfl, reg_mk rfl, row1 rfl, row1 rfl, row1 rfl, rowG rfl rfl, rowG rfl rfl, row1 rfl, rowE rfl, reg_mk rfl, row1 rfl, row1 rfl, rowE rfl, seq_mk rfl, cond_mk rfl, seq_mk rfl, reg_mk rfl, row1 rfl, row1 rfl, rowE rfl, seq_mk rfl, seq_mk rfl, seq_mk rfl, seq_mk rfl⟩
theorem body27 : Try.f27.body = some c27_1 := rfl
/-! fluxion/fluxionref11.divisor -/
noncomputable def c55_1 : Code := (Try.f55.body).getD .skip
noncomputable def c55_2 : Code := kid c55_1 0
noncomputable def c55_3 : Code := kid c55_1 1
noncomputable def c55_4 : Code := kid c55_3 0
noncomputable def c55_5 : Code := kid c55_4 0
noncomputable def c55_6 : Code := kid c55_4 1
noncomputable def c55_7 : Code := kid c55_6 0
noncomputable def c55_8 : Code := kid c55_3 1
noncomputable def c55_9 : Code := kid c55_8 0
noncomputable def c55_10 : Code := kid c55_9 0
noncomputable def c55_11 : Code := kid c55_10 0
noncomputable def c55_12 : Code := kid c55_11 0
noncomputable def c55_13 : Code := kid c55_12 0
noncomputable def c55_14 : Code := kid c55_12 1
noncomputable def c55_15 : Code := kid c55_11 1
noncomputable def c55_16 : Code := kid c55_15 0
noncomputable def c55_17 : Code := kid c55_8 1
noncomputable def c55_18 : Code := kid c55_17 0
@[go_sem] theorem w55 : Reg C c55_2 ∧
  R1 c55_2 0 1 4 (.assign (.const (.bool false))) ∧
  RE c55_2 1 ∧
  Reg C c55_5 ∧
  R1 c55_5 0 1 5 (.move t0) ∧
  R1 c55_5 1 2 6 (.binOp .lss 3 t5 (.const (.int .i64 0)) 3) ∧
  RE c55_5 2 ∧
  Reg C c55_7 ∧
  R1 c55_7 0 1 7 (.move t0) ∧
  R1 c55_7 1 2 8 (.unOp .neg 3 t7) ∧
  R1 c55_7 2 3 0 (.assign t8) ∧
  RE c55_7 3 ∧
  Cond C c55_6 t6 c55_7 .skip ∧
  Seq C c55_4 c55_5 c55_6 ∧
  Reg C c55_13 ∧
  R1 c55_13 0 1 9 (.move t1) ∧
  R1 c55_13 1 2 10 (.binOp .gtr 3 t9 (.const (.int .i64 0)) 3) ∧
  RE c55_13 2 ∧
  Cond C c55_14 t10 .skip (.exit 0) ∧
  Seq C c55_12 c55_13 c55_14 ∧
  Draw C c55_16 ∧
  D1 c55_16 0 1 11 (.move t1) ∧
  D1 c55_16 1 2 12 (.move t0) ∧
  D1 c55_16 2 3 13 (.move t1) ∧
  D1 c55_16 3 4 14 (.binOp .rem 3 t12 t13 3) ∧
  D1 c55_16 4 5 0 (.assign t11) ∧
  D1 c55_16 5 6 1 (.assign t14) ∧
  DE c55_16 6 ∧
  Blk C c55_15 1 c55_16 ∧
  Seq C c55_11 c55_12 c55_15 ∧
  Lp C c55_10 c55_11 ∧
  Blk C c55_9 0 c55_10 ∧
  Reg C c55_18 ∧
  R1 c55_18 0 1 15 (.move t0) ∧
  R1 c55_18 1 2 16 (.binOp .neq 3 t15 (.const (.int .i64 1)) 3) ∧
  R1 c55_18 2 3 4 (.assign t16) ∧
  RE c55_18 3 ∧
  Seq C c55_17 c55_18 .ret ∧
  Seq C c55_8 c55_9 c55_17 ∧
  Seq C c55_3 c55_4 c55_8 ∧
  Seq C c55_1 c55_2 c55_3 :=
  ⟨reg_mk rfl, row1 rfl, rowE rfl, reg_mk rfl, row1 rfl, row1 rfl, rowE rfl, reg_mk rfl, row1 rfl, row1 rfl, row1 rfl, rowE rfl, cond_mk rfl, seq_mk rfl, reg_mk rfl, row1 rfl, row1 rfl, rowE rfl, cond_mk rfl, seq_mk rfl, draw_mk rfl, dow1 rfl, dow1 rfl, dow1 rfl, dow1 rfl, dow1 rfl, dow1 rfl, dowE rfl, blk_mk rfl, seq_mk rfl, lp_mk rfl, blk_mk rfl, reg_mk rfl, row1 rfl, row1 rfl, row1 rfl, rowE rfl, seq_mk rfl, seq_mk rfl, seq_mk rfl, seq_mk rfl⟩
theorem body55 : Try.f55.body = some c55_1 := rfl
/-! fluxion/fluxionref11.attrs -/
noncomputable def c28_1 : Code := (Try.f28.body).getD .skip
noncomputable def c28_2 : Code := kid c28_1 0
noncomputable def c28_3 : Code := kid c28_1 1
noncomputable def c28_4 : Code := kid c28_3 0
noncomputable def c28_5 : Code := kid c28_4 0
noncomputable def c28_6 : Code := kid c28_4 1
noncomputable def c28_7 : Code := kid c28_6 0
noncomputable def c28_8 : Code := kid c28_7 0
noncomputable def c28_9 : Code := kid c28_8 0
noncomputable def c28_10 : Code := kid c28_9 0
noncomputable def c28_11 : Code := kid c28_9 1
noncomputable def c28_12 : Code := kid c28_8 1
noncomputable def c28_13 : Code := kid c28_12 0
noncomputable def c28_14 : Code := kid c28_13 0
noncomputable def c28_15 : Code := kid c28_14 0
noncomputable def c28_16 : Code := kid c28_14 1
noncomputable def c28_17 : Code := kid c28_16 0
noncomputable def c28_18 : Code := kid c28_17 0
noncomputable def c28_19 : Code := kid c28_12 1
noncomputable def c28_20 : Code := kid c28_3 1
noncomputable def c28_21 : Code := kid c28_20 0
noncomputable def c28_22 : Code := kid c28_21 0
noncomputable def c28_23 : Code := kid c28_21 1
noncomputable def c28_24 : Code := kid c28_23 0
noncomputable def c28_25 : Code := kid c28_24 0
noncomputable def c28_26 : Code := kid c28_24 1
noncomputable def c28_27 : Code := kid c28_26 0
noncomputable def c28_28 : Code := kid c28_27 0
noncomputable def c28_29 : Code := kid c28_26 1
noncomputable def c28_30 : Code := kid c28_29 0
noncomputable def c28_31 : Code := kid c28_29 1
noncomputable def c28_32 : Code := kid c28_31 0
noncomputable def c28_33 : Code := kid c28_32 0
noncomputable def c28_34 : Code := kid c28_31 1
noncomputable def c28_35 : Code := kid c28_34 0
noncomputable def c28_36 : Code := kid c28_34 1
noncomputable def c28_37 : Code := kid c28_36 0
noncomputable def c28_38 : Code := kid c28_37 0
noncomputable def c28_39 : Code := kid c28_38 0
noncomputable def c28_40 : Code := kid c28_38 1
noncomputable def c28_41 : Code := kid c28_40 0
noncomputable def c28_42 : Code := kid c28_41 0
noncomputable def c28_43 : Code := kid c28_42 0
noncomputable def c28_44 : Code := kid c28_43 0
noncomputable def c28_45 : Code := kid c28_43 1
noncomputable def c28_46 : Code := kid c28_42 1
noncomputable def c28_47 : Code := kid c28_46 0
noncomputable def c28_48 : Code := kid c28_47 0
noncomputable def c28_49 : Code := kid c28_48 0
noncomputable def c28_50 : Code := kid c28_49 0
noncomputable def c28_51 : Code := kid c28_49 1
noncomputable def c28_52 : Code := kid c28_51 0
noncomputable def c28_53 : Code := kid c28_52 0
noncomputable def c28_54 : Code := kid c28_48 1
noncomputable def c28_55 : Code := kid c28_54 0
noncomputable def c28_56 : Code := kid c28_54 1
noncomputable def c28_57 : Code := kid c28_56 0
noncomputable def c28_58 : Code := kid c28_57 0
noncomputable def c28_59 : Code := kid c28_58 0
noncomputable def c28_60 : Code := kid c28_59 0
noncomputable def c28_61 : Code := kid c28_59 1
noncomputable def c28_62 : Code := kid c28_58 1
noncomputable def c28_63 : Code := kid c28_62 0
noncomputable def c28_64 : Code := kid c28_63 0
noncomputable def c28_65 : Code := kid c28_64 0
noncomputable def c28_66 : Code := kid c28_64 1
noncomputable def c28_67 : Code := kid c28_66 0
noncomputable def c28_68 : Code := kid c28_67 0
noncomputable def c28_69 : Code := kid c28_62 1
noncomputable def c28_70 : Code := kid c28_46 1
noncomputable def c28_71 : Code := kid c28_37 1
noncomputable def c28_72 : Code := kid c28_71 0
noncomputable def c28_73 : Code := kid c28_36 1
noncomputable def c28_74 : Code := kid c28_73 0
noncomputable def c28_75 : Code := kid c28_74 0
noncomputable def c28_76 : Code := kid c28_74 1
noncomputable def c28_77 : Code := kid c28_76 1
noncomputable def c28_78 : Code := kid c28_73 1
noncomputable def c28_79 : Code := kid c28_78 0
noncomputable def c28_80 : Code := kid c28_79 0
noncomputable def c28_81 : Code := kid c28_78 1
noncomputable def c28_82 : Code := kid c28_81 0
noncomputable def c28_83 : Code := kid c28_82 0
noncomputable def c28_84 : Code := kid c28_82 1
noncomputable def c28_85 : Code := kid c28_84 1
noncomputable def c28_86 : Code := kid c28_81 1
noncomputable def c28_87 : Code := kid c28_86 0
noncomputable def c28_88 : Code := kid c28_87 0
noncomputable def c28_89 : Code := kid c28_88 0
noncomputable def c28_90 : Code := kid c28_88 1
noncomputable def c28_91 : Code := kid c28_90 0
noncomputable def c28_92 : Code := kid c28_91 0
noncomputable def c28_93 : Code := kid c28_92 0
noncomputable def c28_94 : Code := kid c28_93 0
noncomputable def c28_95 : Code := kid c28_93 1
noncomputable def c28_96 : Code := kid c28_92 1
noncomputable def c28_97 : Code := kid c28_96 0
noncomputable def c28_98 : Code := kid c28_97 0
noncomputable def c28_99 : Code := kid c28_98 0
noncomputable def c28_100 : Code := kid c28_98 1
noncomputable def c28_101 : Code := kid c28_100 0
noncomputable def c28_102 : Code := kid c28_101 0
noncomputable def c28_103 : Code := kid c28_96 1
noncomputable def c28_104 : Code := kid c28_87 1
noncomputable def c28_105 : Code := kid c28_104 0
noncomputable def c28_106 : Code := kid c28_86 1
noncomputable def c28_107 : Code := kid c28_106 0
noncomputable def c28_108 : Code := kid c28_107 0
noncomputable def c28_109 : Code := kid c28_107 1
noncomputable def c28_110 : Code := kid c28_109 1
noncomputable def c28_111 : Code := kid c28_106 1
noncomputable def c28_112 : Code := kid c28_111 0
noncomputable def c28_113 : Code := kid c28_112 0
noncomputable def c28_114 : Code := kid c28_113 0
noncomputable def c28_115 : Code := kid c28_113 1
noncomputable def c28_116 : Code := kid c28_115 0
noncomputable def c28_117 : Code := kid c28_116 0
noncomputable def c28_118 : Code := kid c28_112 1
noncomputable def c28_119 : Code := kid c28_118 0
noncomputable def c28_120 : Code := kid c28_119 0
noncomputable def c28_121 : Code := kid c28_119 1
noncomputable def c28_122 : Code := kid c28_121 0
noncomputable def c28_123 : Code := kid c28_122 0
noncomputable def c28_124 : Code := kid c28_123 0
noncomputable def c28_125 : Code := kid c28_124 0
noncomputable def c28_126 : Code := kid c28_124 1
noncomputable def c28_127 : Code := kid c28_123 1
noncomputable def c28_128 : Code := kid c28_127 0
noncomputable def c28_129 : Code := kid c28_128 0
noncomputable def c28_130 : Code := kid c28_129 0
noncomputable def c28_131 : Code := kid c28_129 1
noncomputable def c28_132 : Code := kid c28_131 0
noncomputable def c28_133 : Code := kid c28_132 0
noncomputable def c28_134 : Code := kid c28_127 1
noncomputable def c28_135 : Code := kid c28_118 1
noncomputable def c28_136 : Code := kid c28_135 0
noncomputable def c28_137 : Code := kid c28_111 1
noncomputable def c28_138 : Code := kid c28_137 0
noncomputable def c28_139 : Code := kid c28_137 1
noncomputable def c28_140 : Code := kid c28_139 0
noncomputable def c28_141 : Code := kid c28_140 0
noncomputable def c28_142 : Code := kid c28_20 1
noncomputable def c28_143 : Code := kid c28_142 0
@[go_sem] theorem w28 : Reg C c28_2 ∧
  R1 c28_2 0 1 4 (.assign (.const (.bool false))) ∧
  RE c28_2 1 ∧
  Reg C c28_5 ∧
  R1 c28_5 0 1 5 (.assign (.const (.int .i64 0))) ∧
  RE c28_5 1 ∧
  Reg C c28_10 ∧
  R1 c28_10 0 1 10 (.move t5) ∧
  R1 c28_10 1 2 11 (.move t1) ∧
  R1 c28_10 2 3 12 (.call ⟨.builtin .len, #[t11], #[23]⟩) ∧
  R1 c28_10 3 4 13 (.binOp .lss 3 t10 t12 3) ∧
  RE c28_10 4 ∧
  Cond C c28_11 t13 .skip (.exit 0) ∧
  Seq C c28_9 c28_10 c28_11 ∧
  Reg C c28_15 ∧
  R1 c28_15 0 1 16 (.move t1) ∧
  R1 c28_15 1 2 17 (.move t5) ∧
  R1 c28_15 2 3 18 (.indexAddr 23 t16 t17) ∧
  R1 c28_15 3 4 19 (.load 3 t18) ∧
  R1 c28_15 4 5 20 (.binOp .gtr 3 t19 (.const (.int .i64 2147483647)) 3) ∧
  R1 c28_15 5 6 21 (.move t20) ∧
  RG c28_15 6 7 (some 22) (.move t1) 21 false ∧
  RG c28_15 7 8 (some 23) (.move t5) 21 false ∧
  RG c28_15 8 9 (some 24) (.indexAddr 23 t22 t23) 21 false ∧
  RG c28_15 9 10 (some 25) (.load 3 t24) 21 false ∧
  RG c28_15 10 11 (some 26) (.binOp .lss 3 t25 (.const (.int .i64 (-2147483647))) 3) 21 false ∧
  R1 c28_15 11 12 27 (.pick t21 (.const (.bool true)) t26) ∧
  RE c28_15 12 ∧
  Reg C c28_18 ∧
  R1 c28_18 0 1 4 (.assign (.const (.bool false))) ∧
  RE c28_18 1 ∧
  Seq C c28_17 c28_18 .ret ∧
  Cond C c28_16 t27 c28_17 .skip ∧
  Seq C c28_14 c28_15 c28_16 ∧
  Blk C c28_13 1 c28_14 ∧
  Reg C c28_19 ∧
  R1 c28_19 0 1 14 (.move t5) ∧
  R1 c28_19 1 2 15 (.binOp .add 3 t14 (.const (.int .i64 1)) 3) ∧
  R1 c28_19 2 3 5 (.assign t15) ∧
  RE c28_19 3 ∧
  Seq C c28_12 c28_13 c28_19 ∧
  Seq C c28_8 c28_9 c28_12 ∧
  Lp C c28_7 c28_8 ∧
  Blk C c28_6 0 c28_7 ∧
  Seq C c28_4 c28_5 c28_6 ∧
  Reg C c28_22 ∧
  R1 c28_22 0 1 28 (.move t0) ∧
  RE c28_22 1 ∧
  Reg C c28_25 ∧
  R1 c28_25 0 1 30 (.binOp .eql 22 t28 (.const (.int .i64 6)) 22) ∧
  R1 c28_25 1 2 29 (.assign t30) ∧
  RE c28_25 2 ∧
  Reg C c28_28 ∧
  R1 c28_28 0 1 31 (.move t1) ∧
  R1 c28_28 1 2 32 (.call ⟨.builtin .len, #[t31], #[23]⟩) ∧
  R1 c28_28 2 3 33 (.binOp .eql 3 t32 (.const (.int .i64 1)) 3) ∧
  R1 c28_28 3 4 34 (.move t33) ∧
  RG c28_28 4 5 (some 35) (.move t1) 34 true ∧
  RG c28_28 5 6 (some 36) (.indexAddr 23 t35 (.const (.int .i64 0))) 34 true ∧
  RG c28_28 6 7 (some 37) (.load 3 t36) 34 true ∧
  RG c28_28 7 8 (some 38) (.binOp .geq 3 t37 (.const (.int .i64 0)) 3) 34 true ∧
  R1 c28_28 8 9 39 (.pick t34 t38 (.const (.bool false))) ∧
  R1 c28_28 9 10 40 (.move t39) ∧
  RG c28_28 10 11 (some 41) (.move t1) 40 true ∧
  RG c28_28 11 12 (some 42) (.indexAddr 23 t41 (.const (.int .i64 0))) 40 true ∧
  RG c28_28 12 13 (some 43) (.load 3 t42) 40 true ∧
  RG c28_28 13 14 (some 44) (.binOp .leq 3 t43 (.const (.int .i64 16)) 3) 40 true ∧
  R1 c28_28 14 15 45 (.pick t40 t44 (.const (.bool false))) ∧
  R1 c28_28 15 16 4 (.assign t45) ∧
  RE c28_28 16 ∧
  Seq C c28_27 c28_28 .ret ∧
  Reg C c28_30 ∧
  R1 c28_30 0 1 47 (.binOp .eql 22 t28 (.const (.int .i64 9)) 22) ∧
  R1 c28_30 1 2 46 (.assign t47) ∧
  RE c28_30 2 ∧
  Draw C c28_33 ∧
  D1 c28_33 0 1 48 (.move t1) ∧
  D1 c28_33 1 2 49 (.call ⟨.builtin .len, #[t48], #[23]⟩) ∧
  D1 c28_33 2 3 50 (.binOp .eql 3 t49 (.const (.int .i64 2)) 3) ∧
  D1 c28_33 3 4 51 (.move t50) ∧
  DG c28_33 4 5 (some 52) (.move t1) 51 true ∧
  DG c28_33 5 6 (some 53) (.indexAddr 23 t52 (.const (.int .i64 1))) 51 true ∧
  DG c28_33 6 7 (some 54) (.load 3 t53) 51 true ∧
  DG c28_33 7 8 (some 55) (.binOp .geq 3 t54 (.const (.int .i64 1)) 3) 51 true ∧
  D1 c28_33 8 9 56 (.pick t51 t55 (.const (.bool false))) ∧
  D1 c28_33 9 10 57 (.move t56) ∧
  DG c28_33 10 11 (some 58) (.move t1) 57 true ∧
  DG c28_33 11 12 (some 59) (.indexAddr 23 t58 (.const (.int .i64 0))) 57 true ∧
  DG c28_33 12 13 (some 60) (.load 3 t59) 57 true ∧
  DG c28_33 13 14 (some 61) (.move t1) 57 true ∧
  DG c28_33 14 15 (some 62) (.indexAddr 23 t61 (.const (.int .i64 1))) 57 true ∧
  DG c28_33 15 16 (some 63) (.load 3 t62) 57 true ∧
  DG c28_33 16 17 (some 64) (.call ⟨.value (.func 55), #[t60, t63], #[3, 3]⟩) 57 true ∧
  DG c28_33 17 18 (some 65) (.unOp .not 4 t64) 57 true ∧
  D1 c28_33 18 19 66 (.pick t57 t65 (.const (.bool false))) ∧
  D1 c28_33 19 20 4 (.assign t66) ∧
  DE c28_33 20 ∧
  Seq C c28_32 c28_33 .ret ∧
  Reg C c28_35 ∧
  R1 c28_35 0 1 68 (.binOp .eql 22 t28 (.const (.int .i64 11)) 22) ∧
  R1 c28_35 1 2 67 (.assign t68) ∧
  RE c28_35 2 ∧
  Reg C c28_39 ∧
  R1 c28_39 0 1 6 (.assign (.const (.int .i64 0))) ∧
  RE c28_39 1 ∧
  Reg C c28_44 ∧
  R1 c28_44 0 1 69 (.move t6) ∧
  R1 c28_44 1 2 70 (.move t1) ∧
  R1 c28_44 2 3 71 (.call ⟨.builtin .len, #[t70], #[23]⟩) ∧
  R1 c28_44 3 4 72 (.binOp .lss 3 t69 t71 3) ∧
  RE c28_44 4 ∧
  Cond C c28_45 t72 .skip (.exit 3) ∧
  Seq C c28_43 c28_44 c28_45 ∧
  Reg C c28_50 ∧
  R1 c28_50 0 1 75 (.move t1) ∧
  R1 c28_50 1 2 76 (.move t6) ∧
  R1 c28_50 2 3 77 (.indexAddr 23 t75 t76) ∧
  R1 c28_50 3 4 78 (.load 3 t77) ∧
  R1 c28_50 4 5 79 (.binOp .lss 3 t78 (.const (.int .i64 0)) 3) ∧
  R1 c28_50 5 6 80 (.move t79) ∧
  RG c28_50 6 7 (some 81) (.move t1) 80 false ∧
  RG c28_50 7 8 (some 82) (.move t6) 80 false ∧
  RG c28_50 8 9 (some 83) (.indexAddr 23 t81 t82) 80 false ∧
  RG c28_50 9 10 (some 84) (.load 3 t83) 80 false ∧
  RG c28_50 10 11 (some 85) (.move t1) 80 false ∧
  RG c28_50 11 12 (some 86) (.call ⟨.builtin .len, #[t85], #[23]⟩) 80 false ∧
  RG c28_50 12 13 (some 87) (.binOp .geq 3 t84 t86 3) 80 false ∧
  R1 c28_50 13 14 88 (.pick t80 (.const (.bool true)) t87) ∧
  RE c28_50 14 ∧
  Reg C c28_53 ∧
  R1 c28_53 0 1 4 (.assign (.const (.bool false))) ∧
  RE c28_53 1 ∧
  Seq C c28_52 c28_53 .ret ∧
  Cond C c28_51 t88 c28_52 .skip ∧
  Seq C c28_49 c28_50 c28_51 ∧
  Reg C c28_55 ∧
  R1 c28_55 0 1 7 (.assign (.const (.int .i64 0))) ∧
  RE c28_55 1 ∧
  Reg C c28_60 ∧
  R1 c28_60 0 1 89 (.move t7) ∧
  R1 c28_60 1 2 90 (.move t6) ∧
  R1 c28_60 2 3 91 (.binOp .lss 3 t89 t90 3) ∧
  RE c28_60 3 ∧
  Cond C c28_61 t91 .skip (.exit 5) ∧
  Seq C c28_59 c28_60 c28_61 ∧
  Draw C c28_65 ∧
  D1 c28_65 0 1 94 (.move t1) ∧
  D1 c28_65 1 2 95 (.move t7) ∧
  D1 c28_65 2 3 96 (.indexAddr 23 t94 t95) ∧
  D1 c28_65 3 4 97 (.load 3 t96) ∧
  D1 c28_65 4 5 98 (.move t1) ∧
  D1 c28_65 5 6 99 (.move t6) ∧
  D1 c28_65 6 7 100 (.indexAddr 23 t98 t99) ∧
  D1 c28_65 7 8 101 (.load 3 t100) ∧
  D1 c28_65 8 9 102 (.binOp .eql 3 t97 t101 3) ∧
  DE c28_65 9 ∧
  Reg C c28_68 ∧
  R1 c28_68 0 1 4 (.assign (.const (.bool false))) ∧
  RE c28_68 1 ∧
  Seq C c28_67 c28_68 .ret ∧
  Cond C c28_66 t102 c28_67 .skip ∧
  Seq C c28_64 c28_65 c28_66 ∧
  Blk C c28_63 6 c28_64 ∧
  Reg C c28_69 ∧
  R1 c28_69 0 1 92 (.move t7) ∧
  R1 c28_69 1 2 93 (.binOp .add 3 t92 (.const (.int .i64 1)) 3) ∧
  R1 c28_69 2 3 7 (.assign t93) ∧
  RE c28_69 3 ∧
  Seq C c28_62 c28_63 c28_69 ∧
  Seq C c28_58 c28_59 c28_62 ∧
  Lp C c28_57 c28_58 ∧
  Blk C c28_56 5 c28_57 ∧
  Seq C c28_54 c28_55 c28_56 ∧
  Seq C c28_48 c28_49 c28_54 ∧
  Blk C c28_47 4 c28_48 ∧
  Reg C c28_70 ∧
  R1 c28_70 0 1 73 (.move t6) ∧
  R1 c28_70 1 2 74 (.binOp .add 3 t73 (.const (.int .i64 1)) 3) ∧
  R1 c28_70 2 3 6 (.assign t74) ∧
  RE c28_70 3 ∧
  Seq C c28_46 c28_47 c28_70 ∧
  Seq C c28_42 c28_43 c28_46 ∧
  Lp C c28_41 c28_42 ∧
  Blk C c28_40 3 c28_41 ∧
  Seq C c28_38 c28_39 c28_40 ∧
  Reg C c28_72 ∧
  R1 c28_72 0 1 103 (.move t1) ∧
  R1 c28_72 1 2 104 (.call ⟨.builtin .len, #[t103], #[23]⟩) ∧
  R1 c28_72 2 3 105 (.binOp .leq 3 t104 (.const (.int .i64 4)) 3) ∧
  R1 c28_72 3 4 4 (.assign t105) ∧
  RE c28_72 4 ∧
  Seq C c28_71 c28_72 .ret ∧
  Seq C c28_37 c28_38 c28_71 ∧
  Reg C c28_75 ∧
  R1 c28_75 0 1 107 (.binOp .eql 22 t28 (.const (.int .i64 12)) 22) ∧
  R1 c28_75 1 2 106 (.assign t107) ∧
  RE c28_75 2 ∧
  Reg C c28_77 ∧
  R1 c28_77 0 1 108 (.binOp .eql 22 t28 (.const (.int .i64 13)) 22) ∧
  R1 c28_77 1 2 106 (.assign t108) ∧
  RE c28_77 2 ∧
  Cond C c28_76 t106 .skip c28_77 ∧
  Seq C c28_74 c28_75 c28_76 ∧
  Reg C c28_80 ∧
  R1 c28_80 0 1 109 (.move t1) ∧
  R1 c28_80 1 2 110 (.call ⟨.value (.func 18), #[t109], #[23]⟩) ∧
  R1 c28_80 2 3 111 (.binOp .eql 3 t110 (.const (.int .i64 0)) 3) ∧
  R1 c28_80 3 4 4 (.assign t111) ∧
  RE c28_80 4 ∧
  Seq C c28_79 c28_80 .ret ∧
  Reg C c28_83 ∧
  R1 c28_83 0 1 113 (.binOp .eql 22 t28 (.const (.int .i64 14)) 22) ∧
  R1 c28_83 1 2 112 (.assign t113) ∧
  RE c28_83 2 ∧
  Reg C c28_85 ∧
  R1 c28_85 0 1 114 (.binOp .eql 22 t28 (.const (.int .i64 20)) 22) ∧
  R1 c28_85 1 2 112 (.assign t114) ∧
  RE c28_85 2 ∧
  Cond C c28_84 t112 .skip c28_85 ∧
  Seq C c28_82 c28_83 c28_84 ∧
  Reg C c28_89 ∧
  R1 c28_89 0 1 8 (.assign (.const (.int .i64 0))) ∧
  RE c28_89 1 ∧
  Reg C c28_94 ∧
  R1 c28_94 0 1 115 (.move t8) ∧
  R1 c28_94 1 2 116 (.move t1) ∧
  R1 c28_94 2 3 117 (.call ⟨.builtin .len, #[t116], #[23]⟩) ∧
  R1 c28_94 3 4 118 (.binOp .lss 3 t115 t117 3) ∧
  RE c28_94 4 ∧
  Cond C c28_95 t118 .skip (.exit 7) ∧
  Seq C c28_93 c28_94 c28_95 ∧
  Draw C c28_99 ∧
  D1 c28_99 0 1 121 (.move t1) ∧
  D1 c28_99 1 2 122 (.move t8) ∧
  D1 c28_99 2 3 123 (.indexAddr 23 t121 t122) ∧
  D1 c28_99 3 4 124 (.load 3 t123) ∧
  D1 c28_99 4 5 125 (.binOp .lss 3 t124 (.const (.int .i64 0)) 3) ∧
  D1 c28_99 5 6 126 (.move t125) ∧
  DG c28_99 6 7 (some 127) (.move t1) 126 false ∧
  DG c28_99 7 8 (some 128) (.move t8) 126 false ∧
  DG c28_99 8 9 (some 129) (.indexAddr 23 t127 t128) 126 false ∧
  DG c28_99 9 10 (some 130) (.load 3 t129) 126 false ∧
  DG c28_99 10 11 (some 131) (.binOp .gtr 3 t130 (.const (.int .i64 3)) 3) 126 false ∧
  D1 c28_99 11 12 132 (.pick t126 (.const (.bool true)) t131) ∧
  D1 c28_99 12 13 133 (.move t132) ∧
  DG c28_99 13 14 (some 134) (.move t8) 133 false ∧
  DG c28_99 14 15 (some 135) (.binOp .gtr 3 t134 (.const (.int .i64 0)) 3) 133 false ∧
  DG c28_99 15 16 (some 136) (.move t135) 133 false ∧
  DG c28_99 16 17 (some 137) (.move t1) 136 true ∧
  DG c28_99 17 18 (some 138) (.move t8) 136 true ∧
  DG c28_99 18 19 (some 139) (.indexAddr 23 t137 t138) 136 true ∧
  DG c28_99 19 20 (some 140) (.load 3 t139) 136 true ∧
  DG c28_99 20 21 (some 141) (.move t1) 136 true ∧
  DG c28_99 21 22 (some 142) (.move t8) 136 true ∧
  DG c28_99 22 23 (some 143) (.binOp .sub 3 t142 (.const (.int .i64 1)) 3) 136 true ∧
  DG c28_99 23 24 (some 144) (.indexAddr 23 t141 t143) 136 true ∧
  DG c28_99 24 25 (some 145) (.load 3 t144) 136 true ∧
  DG c28_99 25 26 (some 146) (.binOp .leq 3 t140 t145 3) 136 true ∧
  DG c28_99 26 27 (some 147) (.pick t136 t146 (.const (.bool false))) 133 false ∧
  D1 c28_99 27 28 148 (.pick t133 (.const (.bool true)) t147) ∧
  DE c28_99 28 ∧
  Reg C c28_102 ∧
  R1 c28_102 0 1 4 (.assign (.const (.bool false))) ∧
  RE c28_102 1 ∧
  Seq C c28_101 c28_102 .ret ∧
  Cond C c28_100 t148 c28_101 .skip ∧
  Seq C c28_98 c28_99 c28_100 ∧
  Blk C c28_97 8 c28_98 ∧
  Reg C c28_103 ∧
  R1 c28_103 0 1 119 (.move t8) ∧
  R1 c28_103 1 2 120 (.binOp .add 3 t119 (.const (.int .i64 1)) 3) ∧
  R1 c28_103 2 3 8 (.assign t120) ∧
  RE c28_103 3 ∧
  Seq C c28_96 c28_97 c28_103 ∧
  Seq C c28_92 c28_93 c28_96 ∧
  Lp C c28_91 c28_92 ∧
  Blk C c28_90 7 c28_91 ∧
  Seq C c28_88 c28_89 c28_90 ∧
  Reg C c28_105 ∧
  R1 c28_105 0 1 4 (.assign (.const (.bool true))) ∧
  RE c28_105 1 ∧
  Seq C c28_104 c28_105 .ret ∧
  Seq C c28_87 c28_88 c28_104 ∧
  Reg C c28_108 ∧
  R1 c28_108 0 1 150 (.binOp .eql 22 t28 (.const (.int .i64 15)) 22) ∧
  R1 c28_108 1 2 149 (.assign t150) ∧
  RE c28_108 2 ∧
  Reg C c28_110 ∧
  R1 c28_110 0 1 151 (.binOp .eql 22 t28 (.const (.int .i64 16)) 22) ∧
  R1 c28_110 1 2 149 (.assign t151) ∧
  RE c28_110 2 ∧
  Cond C c28_109 t149 .skip c28_110 ∧
  Seq C c28_107 c28_108 c28_109 ∧
  Reg C c28_114 ∧
  R1 c28_114 0 1 152 (.move t1) ∧
  R1 c28_114 1 2 153 (.call ⟨.builtin .len, #[t152], #[23]⟩) ∧
  R1 c28_114 2 3 154 (.binOp .rem 3 t153 (.const (.int .i64 2)) 3) ∧
  R1 c28_114 3 4 155 (.binOp .eql 3 t154 (.const (.int .i64 1)) 3) ∧
  R1 c28_114 4 5 156 (.move t155) ∧
  RG c28_114 5 6 (some 157) (.move t1) 156 false ∧
  RG c28_114 6 7 (some 158) (.call ⟨.builtin .len, #[t157], #[23]⟩) 156 false ∧
  RG c28_114 7 8 (some 159) (.binOp .gtr 3 t158 (.const (.int .i64 8)) 3) 156 false ∧
  R1 c28_114 8 9 160 (.pick t156 (.const (.bool true)) t159) ∧
  RE c28_114 9 ∧
  Reg C c28_117 ∧
  R1 c28_117 0 1 4 (.assign (.const (.bool false))) ∧
  RE c28_117 1 ∧
  Seq C c28_116 c28_117 .ret ∧
  Cond C c28_115 t160 c28_116 .skip ∧
  Seq C c28_113 c28_114 c28_115 ∧
  Reg C c28_120 ∧
  R1 c28_120 0 1 9 (.assign (.const (.int .i64 0))) ∧
  RE c28_120 1 ∧
  Reg C c28_125 ∧
  R1 c28_125 0 1 161 (.move t9) ∧
  R1 c28_125 1 2 162 (.move t1) ∧
  R1 c28_125 2 3 163 (.call ⟨.builtin .len, #[t162], #[23]⟩) ∧
  R1 c28_125 3 4 164 (.binOp .lss 3 t161 t163 3) ∧
  RE c28_125 4 ∧
  Cond C c28_126 t164 .skip (.exit 9) ∧
  Seq C c28_124 c28_125 c28_126 ∧
  Draw C c28_130 ∧
  D1 c28_130 0 1 167 (.move t1) ∧
  D1 c28_130 1 2 168 (.move t9) ∧
  D1 c28_130 2 3 169 (.indexAddr 23 t167 t168) ∧
  D1 c28_130 3 4 170 (.load 3 t169) ∧
  D1 c28_130 4 5 171 (.binOp .lss 3 t170 (.const (.int .i64 0)) 3) ∧
  D1 c28_130 5 6 172 (.move t171) ∧
  DG c28_130 6 7 (some 173) (.move t1) 172 false ∧
  DG c28_130 7 8 (some 174) (.move t9) 172 false ∧
  DG c28_130 8 9 (some 175) (.binOp .add 3 t174 (.const (.int .i64 1)) 3) 172 false ∧
  DG c28_130 9 10 (some 176) (.indexAddr 23 t173 t175) 172 false ∧
  DG c28_130 10 11 (some 177) (.load 3 t176) 172 false ∧
  DG c28_130 11 12 (some 178) (.binOp .lss 3 t177 (.const (.int .i64 0)) 3) 172 false ∧
  D1 c28_130 12 13 179 (.pick t172 (.const (.bool true)) t178) ∧
  D1 c28_130 13 14 180 (.move t179) ∧
  DG c28_130 14 15 (some 181) (.move t0) 180 false ∧
  DG c28_130 15 16 (some 182) (.binOp .eql 22 t181 (.const (.int .i64 15)) 22) 180 false ∧
  DG c28_130 16 17 (some 183) (.move t182) 180 false ∧
  DG c28_130 17 18 (some 184) (.move t1) 183 true ∧
  DG c28_130 18 19 (some 185) (.move t9) 183 true ∧
  DG c28_130 19 20 (some 186) (.binOp .add 3 t185 (.const (.int .i64 1)) 3) 183 true ∧
  DG c28_130 20 21 (some 187) (.indexAddr 23 t184 t186) 183 true ∧
  DG c28_130 21 22 (some 188) (.load 3 t187) 183 true ∧
  DG c28_130 22 23 (some 189) (.move t1) 183 true ∧
  DG c28_130 23 24 (some 190) (.move t9) 183 true ∧
  DG c28_130 24 25 (some 191) (.indexAddr 23 t189 t190) 183 true ∧
  DG c28_130 25 26 (some 192) (.load 3 t191) 183 true ∧
  DG c28_130 26 27 (some 193) (.binOp .leq 3 t188 t192 3) 183 true ∧
  DG c28_130 27 28 (some 194) (.pick t183 t193 (.const (.bool false))) 180 false ∧
  D1 c28_130 28 29 195 (.pick t180 (.const (.bool true)) t194) ∧
  DE c28_130 29 ∧
  Reg C c28_133 ∧
  R1 c28_133 0 1 4 (.assign (.const (.bool false))) ∧
  RE c28_133 1 ∧
  Seq C c28_132 c28_133 .ret ∧
  Cond C c28_131 t195 c28_132 .skip ∧
  Seq C c28_129 c28_130 c28_131 ∧
  Blk C c28_128 10 c28_129 ∧
  Reg C c28_134 ∧
  R1 c28_134 0 1 165 (.move t9) ∧
  R1 c28_134 1 2 166 (.binOp .add 3 t165 (.const (.int .i64 2)) 3) ∧
  R1 c28_134 2 3 9 (.assign t166) ∧
  RE c28_134 3 ∧
  Seq C c28_127 c28_128 c28_134 ∧
  Seq C c28_123 c28_124 c28_127 ∧
  Lp C c28_122 c28_123 ∧
  Blk C c28_121 9 c28_122 ∧
  Seq C c28_119 c28_120 c28_121 ∧
  Reg C c28_136 ∧
  R1 c28_136 0 1 4 (.assign (.const (.bool true))) ∧
  RE c28_136 1 ∧
  Seq C c28_135 c28_136 .ret ∧
  Seq C c28_118 c28_119 c28_135 ∧
  Seq C c28_112 c28_113 c28_118 ∧
  Reg C c28_138 ∧
  R1 c28_138 0 1 197 (.binOp .eql 22 t28 (.const (.int .i64 17)) 22) ∧
  R1 c28_138 1 2 196 (.assign t197) ∧
  RE c28_138 2 ∧
  Reg C c28_141 ∧
  R1 c28_141 0 1 198 (.move t1) ∧
  R1 c28_141 1 2 199 (.call ⟨.builtin .len, #[t198], #[23]⟩) ∧
  R1 c28_141 2 3 200 (.binOp .eql 3 t199 (.const (.int .i64 1)) 3) ∧
  R1 c28_141 3 4 201 (.move t200) ∧
  RG c28_141 4 5 (some 202) (.move t1) 201 true ∧
  RG c28_141 5 6 (some 203) (.indexAddr 23 t202 (.const (.int .i64 0))) 201 true ∧
  RG c28_141 6 7 (some 204) (.load 3 t203) 201 true ∧
  RG c28_141 7 8 (some 205) (.binOp .geq 3 t204 (.const (.int .i64 0)) 3) 201 true ∧
  R1 c28_141 8 9 206 (.pick t201 t205 (.const (.bool false))) ∧
  R1 c28_141 9 10 207 (.move t206) ∧
  RG c28_141 10 11 (some 208) (.move t1) 207 true ∧
  RG c28_141 11 12 (some 209) (.indexAddr 23 t208 (.const (.int .i64 0))) 207 true ∧
  RG c28_141 12 13 (some 210) (.load 3 t209) 207 true ∧
  RG c28_141 13 14 (some 211) (.binOp .leq 3 t210 (.const (.int .i64 3)) 3) 207 true ∧
  R1 c28_141 14 15 212 (.pick t207 t211 (.const (.bool false))) ∧
  R1 c28_141 15 16 4 (.assign t212) ∧
  RE c28_141 16 ∧
  Seq C c28_140 c28_141 .ret ∧
  Cond C c28_139 t196 c28_140 .skip ∧
  Seq C c28_137 c28_138 c28_139 ∧
  Cond C c28_111 t149 c28_112 c28_137 ∧
  Seq C c28_106 c28_107 c28_111 ∧
  Cond C c28_86 t112 c28_87 c28_106 ∧
  Seq C c28_81 c28_82 c28_86 ∧
  Cond C c28_78 t106 c28_79 c28_81 ∧
  Seq C c28_73 c28_74 c28_78 ∧
  Cond C c28_36 t67 c28_37 c28_73 ∧
  Seq C c28_34 c28_35 c28_36 ∧
  Cond C c28_31 t46 c28_32 c28_34 ∧
  Seq C c28_29 c28_30 c28_31 ∧
  Cond C c28_26 t29 c28_27 c28_29 ∧
  Seq C c28_24 c28_25 c28_26 ∧
  Blk C c28_23 2 c28_24 ∧
  Seq C c28_21 c28_22 c28_23 ∧
  Reg C c28_143 ∧
  R1 c28_143 0 1 213 (.move t1) ∧
  R1 c28_143 1 2 214 (.call ⟨.builtin .len, #[t213], #[23]⟩) ∧
  R1 c28_143 2 3 215 (.binOp .eql 3 t214 (.const (.int .i64 0)) 3) ∧
  R1 c28_143 3 4 4 (.assign t215) ∧
  RE c28_143 4 ∧
  Seq C c28_142 c28_143 .ret ∧
  Seq C c28_20 c28_21 c28_142 ∧
  Seq C c28_3 c28_4 c28_20 ∧
  Seq C c28_1 c28_2 c28_3 :=
  ⟨reg_mk rfl, row1 rfl, rowE rfl, reg_mk rfl, row1 rfl, rowE rfl, reg_mk rfl, row1 rfl, row1 rfl, row1 rfl, row1 rfl, rowE rfl, cond_mk rfl, seq_mk rfl, reg_mk rfl, row1 rfl, row1 rfl, row1 rfl, row1 rfl, row1 rfl, row1 rfl, rowG rfl rfl, rowG rfl rfl, rowG rfl rfl, rowG rfl rfl, rowG rfl rfl, row1 rfl, rowE rfl, reg_mk rfl, row1 rfl, rowE rfl, seq_mk rfl, cond_mk rfl, seq_mk rfl, blk_mk rfl, reg_mk rfl, row1 rfl, row1 rfl, row1 rfl, rowE rfl, seq_mk rfl, seq_mk rfl, lp_mk rfl, blk_mk rfl, seq_mk rfl, reg_mk rfl, row1 rfl, rowE rfl, reg_mk rfl, row1 rfl, row1 rfl, rowE rfl, reg_mk rfl, row1 rfl, row1 rfl, row1 rfl, row1 rfl, rowG rfl rfl, rowG rfl rfl, rowG rfl rfl, rowG rfl rfl, row1 rfl, row1 rfl, rowG rfl rfl, rowG rfl rfl, rowG rfl rfl, rowG rfl rfl, row1 rfl, row1 rfl, rowE rfl, seq_mk rfl, reg_mk rfl, row1 rfl, row1 rfl, rowE rfl, draw_mk rfl, dow1 rfl, dow1 rfl, dow1 rfl, dow1 rfl, dowG rfl rfl, dowG rfl rfl, dowG rfl rfl, dowG rfl rfl, dow1 rfl, dow1 rfl, dowG rfl rfl, dowG rfl rfl, dowG rfl rfl, dowG rfl rfl, dowG rfl rfl, dowG rfl rfl, dowG rfl rfl, dowG rfl rfl, dow1 rfl, dow1 rfl, dowE rfl, seq_mk rfl, reg_mk rfl, row1 rfl, row1 rfl, rowE rfl, reg_mk rfl, row1 rfl, rowE rfl, reg_mk rfl, row1 rfl, row1 rfl, row1 rfl, row1 rfl, rowE rfl, cond_mk rfl, seq_mk rfl, reg_mk rfl, row1 rfl, row1 rfl, row1 rfl, row1 rfl, row1 rfl, row1 rfl, rowG rfl rfl, rowG rfl rfl, rowG rfl rfl, rowG rfl rfl, rowG rfl rfl, rowG rfl rfl, rowG rfl rfl, row1 rfl, rowE rfl, reg_mk rfl, row1 rfl, rowE rfl, seq_mk rfl, cond_mk rfl, seq_mk rfl, reg_mk rfl, row1 rfl, rowE rfl, reg_mk rfl, row1 rfl, row1 rfl, row1 rfl, rowE rfl, cond_mk rfl, seq_mk rfl, draw_mk rfl, dow1 rfl, dow1 rfl, dow1 rfl, dow1 rfl, dow1 rfl, dow1 rfl, dow1 rfl, dow1 rfl, dow1 rfl, dowE rfl, reg_mk rfl, row1 rfl, rowE rfl, seq_mk rfl, cond_mk rfl, seq_mk rfl, blk_mk rfl, reg_mk rfl, row1 rfl, row1 rfl, row1 rfl, rowE rfl, seq_mk rfl, seq_mk rfl, lp_mk rfl, blk_mk rfl, seq_mk rfl, seq_mk rfl, blk_mk rfl, reg_mk rfl, row1 rfl, row1 rfl, row1 rfl, rowE rfl, seq_mk rfl, seq_mk rfl, lp_mk rfl, blk_mk rfl, seq_mk rfl, reg_mk rfl, row1 rfl, row1 rfl, row1 rfl, row1 rfl, rowE rfl, seq_mk rfl, seq_mk rfl, reg_mk rfl, row1 rfl, row1 rfl, rowE rfl, reg_mk rfl, row1 rfl, row1 rfl, rowE rfl, cond_mk rfl, seq_mk rfl, reg_mk rfl, row1 rfl, row1 rfl, row1 rfl, row1 rfl, rowE rfl, seq_mk rfl, reg_mk rfl, row1 rfl, row1 rfl, rowE rfl, reg_mk rfl, row1 rfl, row1 rfl, rowE rfl, cond_mk rfl, seq_mk rfl, reg_mk rfl, row1 rfl, rowE rfl, reg_mk rfl, row1 rfl, row1 rfl, row1 rfl, row1 rfl, rowE rfl, cond_mk rfl, seq_mk rfl, draw_mk rfl, dow1 rfl, dow1 rfl, dow1 rfl, dow1 rfl, dow1 rfl, dow1 rfl, dowG rfl rfl, dowG rfl rfl, dowG rfl rfl, dowG rfl rfl, dowG rfl rfl, dow1 rfl, dow1 rfl, dowG rfl rfl, dowG rfl rfl, dowG rfl rfl, dowG rfl rfl, dowG rfl rfl, dowG rfl rfl, dowG rfl rfl, dowG rfl rfl, dowG rfl rfl, dowG rfl rfl, dowG rfl rfl, dowG rfl rfl, dowG rfl rfl, dowG rfl rfl, dow1 rfl, dowE rfl, reg_mk rfl, row1 rfl, rowE rfl, seq_mk rfl, cond_mk rfl, seq_mk rfl, blk_mk rfl, reg_mk rfl, row1 rfl, row1 rfl, row1 rfl, rowE rfl, seq_mk rfl, seq_mk rfl, lp_mk rfl, blk_mk rfl, seq_mk rfl, reg_mk rfl, row1 rfl, rowE rfl, seq_mk rfl, seq_mk rfl, reg_mk rfl, row1 rfl, row1 rfl, rowE rfl, reg_mk rfl, row1 rfl, row1 rfl, rowE rfl, cond_mk rfl, seq_mk rfl, reg_mk rfl, row1 rfl, row1 rfl, row1 rfl, row1 rfl, row1 rfl, rowG rfl rfl, rowG rfl rfl, rowG rfl rfl, row1 rfl, rowE rfl, reg_mk rfl, row1 rfl, rowE rfl, seq_mk rfl, cond_mk rfl, seq_mk rfl, reg_mk rfl, row1 rfl, rowE rfl, reg_mk rfl, row1 rfl, row1 rfl, row1 rfl, row1 rfl, rowE rfl, cond_mk rfl, seq_mk rfl, draw_mk rfl, dow1 rfl, dow1 rfl, dow1 rfl, dow1 rfl, dow1 rfl, dow1 rfl, dowG rfl rfl, dowG rfl rfl, dowG rfl rfl, dowG rfl rfl, dowG rfl rfl, dowG rfl rfl, dow1 rfl, dow1 rfl, dowG rfl rfl, dowG rfl rfl, dowG rfl rfl, dowG rfl rfl, dowG rfl rfl, dowG rfl rfl, dowG rfl rfl, dowG rfl rfl, dowG rfl rfl, dowG rfl rfl, dowG rfl rfl, dowG rfl rfl, dowG rfl rfl, dowG rfl rfl, dow1 rfl, dowE rfl, reg_mk rfl, row1 rfl, rowE rfl, seq_mk rfl, cond_mk rfl, seq_mk rfl, blk_mk rfl, reg_mk rfl, row1 rfl, row1 rfl, row1 rfl, rowE rfl, seq_mk rfl, seq_mk rfl, lp_mk rfl, blk_mk rfl, seq_mk rfl, reg_mk rfl, row1 rfl, rowE rfl, seq_mk rfl, seq_mk rfl, seq_mk rfl, reg_mk rfl, row1 rfl, row1 rfl, rowE rfl, reg_mk rfl, row1 rfl, row1 rfl, row1 rfl, row1 rfl, rowG rfl rfl, rowG rfl rfl, rowG rfl rfl, rowG rfl rfl, row1 rfl, row1 rfl, rowG rfl rfl, rowG rfl rfl, rowG rfl rfl, rowG rfl rfl, row1 rfl, row1 rfl, rowE rfl, seq_mk rfl, cond_mk rfl, seq_mk rfl, cond_mk rfl, seq_mk rfl, cond_mk rfl, seq_mk rfl, cond_mk rfl, seq_mk rfl, cond_mk rfl, seq_mk rfl, cond_mk rfl, seq_mk rfl, cond_mk rfl, seq_mk rfl, blk_mk rfl, seq_mk rfl, reg_mk rfl, row1 rfl, row1 rfl, row1 rfl, row1 rfl, rowE rfl, seq_mk rfl, seq_mk rfl, seq_mk rfl, seq_mk rfl⟩
theorem body28 : Try.f28.body = some c28_1 := rfl
end Go.Proofs.Ytlomgfdepllanaa
end

section
set_option maxRecDepth 100000
namespace Go.Proofs.Ytlomgfdepllanaa
open Go Go.Bv
/-! fluxion/shape.product -/
noncomputable def c34_1 : Code := (Try.f34.body).getD .skip
noncomputable def c34_2 : Code := kid c34_1 0
noncomputable def c34_3 : Code := kid c34_1 1
noncomputable def c34_4 : Code := kid c34_3 0
noncomputable def c34_5 : Code := kid c34_4 0
noncomputable def c34_6 : Code := kid c34_4 1
noncomputable def c34_7 : Code := kid c34_6 1
noncomputable def c34_8 : Code := kid c34_7 0
noncomputable def c34_9 : Code := kid c34_8 0
noncomputable def c34_10 : Code := kid c34_8 1
noncomputable def c34_11 : Code := kid c34_10 0
noncomputable def c34_12 : Code := kid c34_11 0
noncomputable def c34_13 : Code := kid c34_12 0
noncomputable def c34_14 : Code := kid c34_12 1
noncomputable def c34_15 : Code := kid c34_14 0
noncomputable def c34_16 : Code := kid c34_14 1
noncomputable def c34_17 : Code := kid c34_16 0
noncomputable def c34_18 : Code := kid c34_17 0
noncomputable def c34_19 : Code := kid c34_18 0
noncomputable def c34_20 : Code := kid c34_18 1
noncomputable def c34_21 : Code := kid c34_20 0
noncomputable def c34_22 : Code := kid c34_21 0
noncomputable def c34_23 : Code := kid c34_21 1
noncomputable def c34_24 : Code := kid c34_23 0
noncomputable def c34_25 : Code := kid c34_24 0
noncomputable def c34_26 : Code := kid c34_20 1
noncomputable def c34_27 : Code := kid c34_16 1
noncomputable def c34_28 : Code := kid c34_7 1
noncomputable def c34_29 : Code := kid c34_28 0
@[go_sem] theorem w34 : Reg C c34_2 ∧
  R1 c34_2 0 1 2 (.assign (.const (.int .i64 0))) ∧
  RE c34_2 1 ∧
  Reg C c34_5 ∧
  R1 c34_5 0 1 3 (.assign (.const (.int .i64 1))) ∧
  RE c34_5 1 ∧
  Reg C c34_9 ∧
  R1 c34_9 0 1 6 (.move t0) ∧
  R1 c34_9 1 2 7 (.call ⟨.builtin .len, #[t6], #[23]⟩) ∧
  R1 c34_9 2 3 8 (.move (.const (.int .i64 0))) ∧
  RE c34_9 3 ∧
  Reg C c34_13 ∧
  R1 c34_13 0 1 9 (.binOp .lss 3 t8 t7 3) ∧
  RE c34_13 1 ∧
  Cond C c34_15 t9 .skip (.exit 0) ∧
  Reg C c34_19 ∧
  R1 c34_19 0 1 10 (.indexAddr 23 t6 t8) ∧
  R1 c34_19 1 2 11 (.load 3 t10) ∧
  R1 c34_19 2 3 5 (.assign t11) ∧
  RE c34_19 3 ∧
  Reg C c34_22 ∧
  R1 c34_22 0 1 12 (.move t5) ∧
  R1 c34_22 1 2 13 (.move t3) ∧
  R1 c34_22 2 3 14 (.binOp .quo 3 (.const (.int .i64 1024)) t13 3) ∧
  R1 c34_22 3 4 15 (.binOp .gtr 3 t12 t14 3) ∧
  RE c34_22 4 ∧
  Reg C c34_25 ∧
  R1 c34_25 0 1 3 (.assign (.const (.int .i64 1025))) ∧
  RE c34_25 1 ∧
  Seq C c34_24 c34_25 (.exit 0) ∧
  Cond C c34_23 t15 c34_24 .skip ∧
  Seq C c34_21 c34_22 c34_23 ∧
  Reg C c34_26 ∧
  R1 c34_26 0 1 16 (.move t3) ∧
  R1 c34_26 1 2 17 (.move t5) ∧
  R1 c34_26 2 3 18 (.binOp .mul 3 t16 t17 3) ∧
  R1 c34_26 3 4 3 (.assign t18) ∧
  RE c34_26 4 ∧
  Seq C c34_20 c34_21 c34_26 ∧
  Seq C c34_18 c34_19 c34_20 ∧
  Blk C c34_17 1 c34_18 ∧
  Reg C c34_27 ∧
  R1 c34_27 0 1 19 (.binOp .add 3 t8 (.const (.int .i64 1)) 3) ∧
  R1 c34_27 1 2 8 (.move t19) ∧
  RE c34_27 2 ∧
  Seq C c34_16 c34_17 c34_27 ∧
  Seq C c34_14 c34_15 c34_16 ∧
  Seq C c34_12 c34_13 c34_14 ∧
  Lp C c34_11 c34_12 ∧
  Blk C c34_10 0 c34_11 ∧
  Seq C c34_8 c34_9 c34_10 ∧
  Reg C c34_29 ∧
  R1 c34_29 0 1 20 (.move t3) ∧
  R1 c34_29 1 2 2 (.assign t20) ∧
  RE c34_29 2 ∧
  Seq C c34_28 c34_29 .ret ∧
  Seq C c34_7 c34_8 c34_28 ∧
  Seq C c34_6 (.label 0) c34_7 ∧
  Seq C c34_4 c34_5 c34_6 ∧
  Scp C c34_3 c34_4 ∧
  Seq C c34_1 c34_2 c34_3 :=
  ⟨reg_mk rfl, row1 rfl, rowE rfl, reg_mk rfl, row1 rfl, rowE rfl, reg_mk rfl, row1 rfl, row1 rfl, row1 rfl, rowE rfl, reg_mk rfl, row1 rfl, rowE rfl, cond_mk rfl, reg_mk rfl, row1 rfl, row1 rfl, row1 rfl, rowE rfl, reg_mk rfl, row1 rfl, row1 rfl, row1 rfl, row1 rfl, rowE rfl, reg_mk rfl, row1 rfl, rowE rfl, seq_mk rfl, cond_mk rfl, seq_mk rfl, reg_mk rfl, row1 rfl, row1 rfl, row1 rfl, row1 rfl, rowE rfl, seq_mk rfl, seq_mk rfl, blk_mk rfl, reg_mk rfl, row1 rfl, row1 rfl, rowE rfl, seq_mk rfl, seq_mk rfl, seq_mk rfl, lp_mk rfl, blk_mk rfl, seq_mk rfl, reg_mk rfl, row1 rfl, row1 rfl, rowE rfl, seq_mk rfl, seq_mk rfl, seq_mk rfl, seq_mk rfl, scp_mk rfl, seq_mk rfl⟩
theorem body34 : Try.f34.body = some c34_1 := rfl
/-! fluxion/shape.May -/
noncomputable def c23_1 : Code := (Try.f23.body).getD .skip
noncomputable def c23_2 : Code := kid c23_1 0
noncomputable def c23_3 : Code := kid c23_1 1
noncomputable def c23_4 : Code := kid c23_3 0
noncomputable def c23_5 : Code := kid c23_4 0
noncomputable def c23_6 : Code := kid c23_4 1
noncomputable def c23_7 : Code := kid c23_6 0
noncomputable def c23_8 : Code := kid c23_7 0
noncomputable def c23_9 : Code := kid c23_3 1
noncomputable def c23_10 : Code := kid c23_9 0
noncomputable def c23_11 : Code := kid c23_10 0
noncomputable def c23_12 : Code := kid c23_10 1
noncomputable def c23_13 : Code := kid c23_12 0
noncomputable def c23_14 : Code := kid c23_13 0
noncomputable def c23_15 : Code := kid c23_14 0
noncomputable def c23_16 : Code := kid c23_14 1
noncomputable def c23_17 : Code := kid c23_16 0
noncomputable def c23_18 : Code := kid c23_16 1
noncomputable def c23_19 : Code := kid c23_18 0
noncomputable def c23_20 : Code := kid c23_19 0
noncomputable def c23_21 : Code := kid c23_20 0
noncomputable def c23_22 : Code := kid c23_20 1
noncomputable def c23_23 : Code := kid c23_22 0
noncomputable def c23_24 : Code := kid c23_22 1
noncomputable def c23_25 : Code := kid c23_24 0
noncomputable def c23_26 : Code := kid c23_25 0
noncomputable def c23_27 : Code := kid c23_18 1
noncomputable def c23_28 : Code := kid c23_9 1
noncomputable def c23_29 : Code := kid c23_28 0
noncomputable def c23_30 : Code := kid c23_29 0
noncomputable def c23_31 : Code := kid c23_29 1
noncomputable def c23_32 : Code := kid c23_31 0
noncomputable def c23_33 : Code := kid c23_32 0
noncomputable def c23_34 : Code := kid c23_28 1
noncomputable def c23_35 : Code := kid c23_34 0
@[go_sem] theorem w23 : Reg C c23_2 ∧
  R1 c23_2 0 1 2 (.assign (.const (.int .i64 0))) ∧
  RE c23_2 1 ∧
  Reg C c23_5 ∧
  R1 c23_5 0 1 5 (.move t0) ∧
  R1 c23_5 1 2 6 (.call ⟨.builtin .len, #[t5], #[28]⟩) ∧
  R1 c23_5 2 3 7 (.binOp .gtr 3 t6 (.const (.int .i64 4)) 3) ∧
  RE c23_5 3 ∧
  Reg C c23_8 ∧
  R1 c23_8 0 1 2 (.assign (.const (.int .i64 14))) ∧
  RE c23_8 1 ∧
  Seq C c23_7 c23_8 .ret ∧
  Cond C c23_6 t7 c23_7 .skip ∧
  Seq C c23_4 c23_5 c23_6 ∧
  Reg C c23_11 ∧
  R1 c23_11 0 1 8 (.move t0) ∧
  R1 c23_11 1 2 9 (.call ⟨.builtin .len, #[t8], #[28]⟩) ∧
  R1 c23_11 2 3 10 (.move (.const (.int .i64 0))) ∧
  RE c23_11 3 ∧
  Reg C c23_15 ∧
  R1 c23_15 0 1 11 (.binOp .lss 3 t10 t9 3) ∧
  RE c23_15 1 ∧
  Cond C c23_17 t11 .skip (.exit 0) ∧
  Reg C c23_21 ∧
  R1 c23_21 0 1 12 (.indexAddr 28 t8 t10) ∧
  R1 c23_21 1 2 13 (.load 3 t12) ∧
  R1 c23_21 2 3 4 (.assign t13) ∧
  RE c23_21 3 ∧
  Reg C c23_23 ∧
  R1 c23_23 0 1 14 (.move t4) ∧
  R1 c23_23 1 2 15 (.binOp .lss 3 t14 (.const (.int .i64 1)) 3) ∧
  RE c23_23 2 ∧
  Reg C c23_26 ∧
  R1 c23_26 0 1 2 (.assign (.const (.int .i64 13))) ∧
  RE c23_26 1 ∧
  Seq C c23_25 c23_26 .ret ∧
  Cond C c23_24 t15 c23_25 .skip ∧
  Seq C c23_22 c23_23 c23_24 ∧
  Seq C c23_20 c23_21 c23_22 ∧
  Blk C c23_19 1 c23_20 ∧
  Reg C c23_27 ∧
  R1 c23_27 0 1 16 (.binOp .add 3 t10 (.const (.int .i64 1)) 3) ∧
  R1 c23_27 1 2 10 (.move t16) ∧
  RE c23_27 2 ∧
  Seq C c23_18 c23_19 c23_27 ∧
  Seq C c23_16 c23_17 c23_18 ∧
  Seq C c23_14 c23_15 c23_16 ∧
  Lp C c23_13 c23_14 ∧
  Blk C c23_12 0 c23_13 ∧
  Seq C c23_10 c23_11 c23_12 ∧
  Reg C c23_30 ∧
  R1 c23_30 0 1 17 (.move t0) ∧
  R1 c23_30 1 2 18 (.call ⟨.value (.func 34), #[t17], #[23]⟩) ∧
  R1 c23_30 2 3 19 (.binOp .gtr 3 t18 (.const (.int .i64 1024)) 3) ∧
  RE c23_30 3 ∧
  Reg C c23_33 ∧
  R1 c23_33 0 1 2 (.assign (.const (.int .i64 14))) ∧
  RE c23_33 1 ∧
  Seq C c23_32 c23_33 .ret ∧
  Cond C c23_31 t19 c23_32 .skip ∧
  Seq C c23_29 c23_30 c23_31 ∧
  Reg C c23_35 ∧
  R1 c23_35 0 1 2 (.assign (.const (.int .i64 0))) ∧
  RE c23_35 1 ∧
  Seq C c23_34 c23_35 .ret ∧
  Seq C c23_28 c23_29 c23_34 ∧
  Seq C c23_9 c23_10 c23_28 ∧
  Seq C c23_3 c23_4 c23_9 ∧
  Seq C c23_1 c23_2 c23_3 :=
  ⟨reg_mk rfl, row1 rfl, rowE rfl, reg_mk rfl, row1 rfl, row1 rfl, row1 rfl, rowE rfl, reg_mk rfl, row1 rfl, rowE rfl, seq_mk rfl, cond_mk rfl, seq_mk rfl, reg_mk rfl, row1 rfl, row1 rfl, row1 rfl, rowE rfl, reg_mk rfl, row1 rfl, rowE rfl, cond_mk rfl, reg_mk rfl, row1 rfl, row1 rfl, row1 rfl, rowE rfl, reg_mk rfl, row1 rfl, row1 rfl, rowE rfl, reg_mk rfl, row1 rfl, rowE rfl, seq_mk rfl, cond_mk rfl, seq_mk rfl, seq_mk rfl, blk_mk rfl, reg_mk rfl, row1 rfl, row1 rfl, rowE rfl, seq_mk rfl, seq_mk rfl, seq_mk rfl, lp_mk rfl, blk_mk rfl, seq_mk rfl, reg_mk rfl, row1 rfl, row1 rfl, row1 rfl, rowE rfl, reg_mk rfl, row1 rfl, rowE rfl, seq_mk rfl, cond_mk rfl, seq_mk rfl, reg_mk rfl, row1 rfl, rowE rfl, seq_mk rfl, seq_mk rfl, seq_mk rfl, seq_mk rfl, seq_mk rfl⟩
theorem body23 : Try.f23.body = some c23_1 := rfl
/-! fluxion/shape.Count -/
noncomputable def c29_1 : Code := (Try.f29.body).getD .skip
noncomputable def c29_2 : Code := kid c29_1 0
noncomputable def c29_3 : Code := kid c29_1 1
noncomputable def c29_4 : Code := kid c29_3 0
noncomputable def c29_5 : Code := kid c29_4 0
noncomputable def c29_6 : Code := kid c29_4 1
noncomputable def c29_7 : Code := kid c29_6 0
noncomputable def c29_8 : Code := kid c29_7 0
noncomputable def c29_9 : Code := kid c29_3 1
noncomputable def c29_10 : Code := kid c29_9 0
@[go_sem] theorem w29 : Reg C c29_2 ∧
  R1 c29_2 0 1 2 (.assign (.const (.int .i64 0))) ∧
  RE c29_2 1 ∧
  Reg C c29_5 ∧
  R1 c29_5 0 1 3 (.move t0) ∧
  R1 c29_5 1 2 4 (.call ⟨.value (.func 23), #[t3], #[28]⟩) ∧
  R1 c29_5 2 3 5 (.binOp .neq 29 t4 (.const (.int .i64 0)) 29) ∧
  RE c29_5 3 ∧
  Reg C c29_8 ∧
  R1 c29_8 0 1 2 (.assign (.const (.int .i64 0))) ∧
  RE c29_8 1 ∧
  Seq C c29_7 c29_8 .ret ∧
  Cond C c29_6 t5 c29_7 .skip ∧
  Seq C c29_4 c29_5 c29_6 ∧
  Reg C c29_10 ∧
  R1 c29_10 0 1 6 (.move t0) ∧
  R1 c29_10 1 2 7 (.call ⟨.value (.func 34), #[t6], #[23]⟩) ∧
  R1 c29_10 2 3 2 (.assign t7) ∧
  RE c29_10 3 ∧
  Seq C c29_9 c29_10 .ret ∧
  Seq C c29_3 c29_4 c29_9 ∧
  Seq C c29_1 c29_2 c29_3 :=
  ⟨reg_mk rfl, row1 rfl, rowE rfl, reg_mk rfl, row1 rfl, row1 rfl, row1 rfl, rowE rfl, reg_mk rfl, row1 rfl, rowE rfl, seq_mk rfl, cond_mk rfl, seq_mk rfl, reg_mk rfl, row1 rfl, row1 rfl, row1 rfl, rowE rfl, seq_mk rfl, seq_mk rfl, seq_mk rfl⟩
theorem body29 : Try.f29.body = some c29_1 := rfl
/-! fluxion/shape.Same -/
noncomputable def c38_1 : Code := (Try.f38.body).getD .skip
noncomputable def c38_2 : Code := kid c38_1 0
noncomputable def c38_3 : Code := kid c38_1 1
noncomputable def c38_4 : Code := kid c38_3 0
@[go_sem] theorem w38 : Reg C c38_2 ∧
  R1 c38_2 0 1 4 (.assign (.const (.bool false))) ∧
  RE c38_2 1 ∧
  Reg C c38_4 ∧
  R1 c38_4 0 1 5 (.move t0) ∧
  R1 c38_4 1 2 6 (.move t1) ∧
  R1 c38_4 2 3 7 (.call ⟨.value (.func 59), #[t5, t6], #[28, 28]⟩) ∧
  R1 c38_4 3 4 4 (.assign t7) ∧
  RE c38_4 4 ∧
  Seq C c38_3 c38_4 .ret ∧
  Seq C c38_1 c38_2 c38_3 :=
  ⟨reg_mk rfl, row1 rfl, rowE rfl, reg_mk rfl, row1 rfl, row1 rfl, row1 rfl, row1 rfl, rowE rfl, seq_mk rfl, seq_mk rfl⟩
theorem body38 : Try.f38.body = some c38_1 := rfl
/-! slices.Equal[fluxion/api.Shape,int] -/
noncomputable def c59_1 : Code := (Try.f59.body).getD .skip
noncomputable def c59_2 : Code := kid c59_1 0
noncomputable def c59_3 : Code := kid c59_1 1
noncomputable def c59_4 : Code := kid c59_3 0
noncomputable def c59_5 : Code := kid c59_4 0
noncomputable def c59_6 : Code := kid c59_4 1
noncomputable def c59_7 : Code := kid c59_6 0
noncomputable def c59_8 : Code := kid c59_7 0
noncomputable def c59_9 : Code := kid c59_3 1
noncomputable def c59_10 : Code := kid c59_9 0
noncomputable def c59_11 : Code := kid c59_10 0
noncomputable def c59_12 : Code := kid c59_10 1
noncomputable def c59_13 : Code := kid c59_12 0
noncomputable def c59_14 : Code := kid c59_13 0
noncomputable def c59_15 : Code := kid c59_14 0
noncomputable def c59_16 : Code := kid c59_14 1
noncomputable def c59_17 : Code := kid c59_16 0
noncomputable def c59_18 : Code := kid c59_16 1
noncomputable def c59_19 : Code := kid c59_18 0
noncomputable def c59_20 : Code := kid c59_19 0
noncomputable def c59_21 : Code := kid c59_20 0
noncomputable def c59_22 : Code := kid c59_20 1
noncomputable def c59_23 : Code := kid c59_22 0
noncomputable def c59_24 : Code := kid c59_22 1
noncomputable def c59_25 : Code := kid c59_24 0
noncomputable def c59_26 : Code := kid c59_25 0
noncomputable def c59_27 : Code := kid c59_18 1
noncomputable def c59_28 : Code := kid c59_9 1
noncomputable def c59_29 : Code := kid c59_28 0
@[go_sem] theorem w59 : Reg C c59_2 ∧
  R1 c59_2 0 1 4 (.assign (.const (.bool false))) ∧
  RE c59_2 1 ∧
  Reg C c59_5 ∧
  R1 c59_5 0 1 6 (.move t0) ∧
  R1 c59_5 1 2 7 (.call ⟨.builtin .len, #[t6], #[28]⟩) ∧
  R1 c59_5 2 3 8 (.move t1) ∧
  R1 c59_5 3 4 9 (.call ⟨.builtin .len, #[t8], #[28]⟩) ∧
  R1 c59_5 4 5 10 (.binOp .neq 3 t7 t9 3) ∧
  RE c59_5 5 ∧
  Reg C c59_8 ∧
  R1 c59_8 0 1 4 (.assign (.const (.bool false))) ∧
  RE c59_8 1 ∧
  Seq C c59_7 c59_8 .ret ∧
  Cond C c59_6 t10 c59_7 .skip ∧
  Seq C c59_4 c59_5 c59_6 ∧
  Reg C c59_11 ∧
  R1 c59_11 0 1 11 (.move t0) ∧
  R1 c59_11 1 2 12 (.call ⟨.builtin .len, #[t11], #[28]⟩) ∧
  R1 c59_11 2 3 13 (.move (.const (.int .i64 0))) ∧
  RE c59_11 3 ∧
  Reg C c59_15 ∧
  R1 c59_15 0 1 14 (.binOp .lss 3 t13 t12 3) ∧
  RE c59_15 1 ∧
  Cond C c59_17 t14 .skip (.exit 0) ∧
  Reg C c59_21 ∧
  R1 c59_21 0 1 15 (.move t13) ∧
  R1 c59_21 1 2 5 (.assign t15) ∧
  RE c59_21 2 ∧
  Draw C c59_23 ∧
  D1 c59_23 0 1 16 (.move t0) ∧
  D1 c59_23 1 2 17 (.move t5) ∧
  D1 c59_23 2 3 18 (.indexAddr 28 t16 t17) ∧
  D1 c59_23 3 4 19 (.load 3 t18) ∧
  D1 c59_23 4 5 20 (.move t1) ∧
  D1 c59_23 5 6 21 (.move t5) ∧
  D1 c59_23 6 7 22 (.indexAddr 28 t20 t21) ∧
  D1 c59_23 7 8 23 (.load 3 t22) ∧
  D1 c59_23 8 9 24 (.binOp .neq 3 t19 t23 3) ∧
  DE c59_23 9 ∧
  Reg C c59_26 ∧
  R1 c59_26 0 1 4 (.assign (.const (.bool false))) ∧
  RE c59_26 1 ∧
  Seq C c59_25 c59_26 .ret ∧
  Cond C c59_24 t24 c59_25 .skip ∧
  Seq C c59_22 c59_23 c59_24 ∧
  Seq C c59_20 c59_21 c59_22 ∧
  Blk C c59_19 1 c59_20 ∧
  Reg C c59_27 ∧
  R1 c59_27 0 1 25 (.binOp .add 3 t13 (.const (.int .i64 1)) 3) ∧
  R1 c59_27 1 2 13 (.move t25) ∧
  RE c59_27 2 ∧
  Seq C c59_18 c59_19 c59_27 ∧
  Seq C c59_16 c59_17 c59_18 ∧
  Seq C c59_14 c59_15 c59_16 ∧
  Lp C c59_13 c59_14 ∧
  Blk C c59_12 0 c59_13 ∧
  Seq C c59_10 c59_11 c59_12 ∧
  Reg C c59_29 ∧
  R1 c59_29 0 1 4 (.assign (.const (.bool true))) ∧
  RE c59_29 1 ∧
  Seq C c59_28 c59_29 .ret ∧
  Seq C c59_9 c59_10 c59_28 ∧
  Seq C c59_3 c59_4 c59_9 ∧
  Seq C c59_1 c59_2 c59_3 :=
  ⟨reg_mk rfl, row1 rfl, rowE rfl, reg_mk rfl, row1 rfl, row1 rfl, row1 rfl, row1 rfl, row1 rfl, rowE rfl, reg_mk rfl, row1 rfl, rowE rfl, seq_mk rfl, cond_mk rfl, seq_mk rfl, reg_mk rfl, row1 rfl, row1 rfl, row1 rfl, rowE rfl, reg_mk rfl, row1 rfl, rowE rfl, cond_mk rfl, reg_mk rfl, row1 rfl, row1 rfl, rowE rfl, draw_mk rfl, dow1 rfl, dow1 rfl, dow1 rfl, dow1 rfl, dow1 rfl, dow1 rfl, dow1 rfl, dow1 rfl, dow1 rfl, dowE rfl, reg_mk rfl, row1 rfl, rowE rfl, seq_mk rfl, cond_mk rfl, seq_mk rfl, seq_mk rfl, blk_mk rfl, reg_mk rfl, row1 rfl, row1 rfl, rowE rfl, seq_mk rfl, seq_mk rfl, seq_mk rfl, lp_mk rfl, blk_mk rfl, seq_mk rfl, reg_mk rfl, row1 rfl, rowE rfl, seq_mk rfl, seq_mk rfl, seq_mk rfl, seq_mk rfl⟩
theorem body59 : Try.f59.body = some c59_1 := rfl
/-! fluxion/shape.Fits -/
noncomputable def c40_1 : Code := (Try.f40.body).getD .skip
noncomputable def c40_2 : Code := kid c40_1 0
noncomputable def c40_3 : Code := kid c40_1 1
noncomputable def c40_4 : Code := kid c40_3 0
noncomputable def c40_5 : Code := kid c40_4 0
noncomputable def c40_6 : Code := kid c40_4 1
noncomputable def c40_7 : Code := kid c40_6 0
noncomputable def c40_8 : Code := kid c40_7 0
noncomputable def c40_9 : Code := kid c40_8 0
noncomputable def c40_10 : Code := kid c40_8 1
noncomputable def c40_11 : Code := kid c40_10 0
noncomputable def c40_12 : Code := kid c40_10 1
noncomputable def c40_13 : Code := kid c40_12 0
noncomputable def c40_14 : Code := kid c40_13 0
noncomputable def c40_15 : Code := kid c40_14 0
noncomputable def c40_16 : Code := kid c40_14 1
noncomputable def c40_17 : Code := kid c40_16 0
noncomputable def c40_18 : Code := kid c40_16 1
noncomputable def c40_19 : Code := kid c40_18 0
noncomputable def c40_20 : Code := kid c40_18 1
noncomputable def c40_21 : Code := kid c40_20 0
noncomputable def c40_22 : Code := kid c40_21 0
noncomputable def c40_23 : Code := kid c40_12 1
noncomputable def c40_24 : Code := kid c40_3 1
noncomputable def c40_25 : Code := kid c40_24 0
noncomputable def c40_26 : Code := kid c40_24 1
noncomputable def c40_27 : Code := kid c40_26 0
noncomputable def c40_28 : Code := kid c40_27 0
noncomputable def c40_29 : Code := kid c40_27 1
noncomputable def c40_30 : Code := kid c40_29 0
noncomputable def c40_31 : Code := kid c40_30 0
noncomputable def c40_32 : Code := kid c40_26 1
noncomputable def c40_33 : Code := kid c40_32 0
noncomputable def c40_34 : Code := kid c40_33 0
noncomputable def c40_35 : Code := kid c40_33 1
noncomputable def c40_36 : Code := kid c40_35 0
noncomputable def c40_37 : Code := kid c40_36 0
noncomputable def c40_38 : Code := kid c40_37 0
noncomputable def c40_39 : Code := kid c40_37 1
noncomputable def c40_40 : Code := kid c40_39 0
noncomputable def c40_41 : Code := kid c40_39 1
noncomputable def c40_42 : Code := kid c40_41 0
noncomputable def c40_43 : Code := kid c40_42 0
noncomputable def c40_44 : Code := kid c40_43 0
noncomputable def c40_45 : Code := kid c40_43 1
noncomputable def c40_46 : Code := kid c40_45 0
noncomputable def c40_47 : Code := kid c40_45 1
noncomputable def c40_48 : Code := kid c40_47 0
noncomputable def c40_49 : Code := kid c40_48 0
noncomputable def c40_50 : Code := kid c40_41 1
noncomputable def c40_51 : Code := kid c40_32 1
noncomputable def c40_52 : Code := kid c40_51 0
@[go_sem] theorem w40 : Reg C c40_2 ∧
  R1 c40_2 0 1 4 (.assign (.const (.int .i64 0))) ∧
  RE c40_2 1 ∧
  Reg C c40_5 ∧
  R1 c40_5 0 1 11 (.move t0) ∧
  R1 c40_5 1 2 12 (.move t1) ∧
  R1 c40_5 2 3 13 (.buildSlice 26 2 #[(0, t11), (1, t12)]) ∧
  R1 c40_5 3 4 14 (.call ⟨.builtin .len, #[t13], #[26]⟩) ∧
  R1 c40_5 4 5 15 (.move (.const (.int .i64 0))) ∧
  RE c40_5 5 ∧
  Reg C c40_9 ∧
  R1 c40_9 0 1 16 (.binOp .lss 3 t15 t14 3) ∧
  RE c40_9 1 ∧
  Cond C c40_11 t16 .skip (.exit 0) ∧
  Reg C c40_15 ∧
  R1 c40_15 0 1 17 (.indexAddr 26 t13 t15) ∧
  R1 c40_15 1 2 18 (.load 28 t17) ∧
  R1 c40_15 2 3 6 (.assign t18) ∧
  RE c40_15 3 ∧
  Reg C c40_17 ∧
  R1 c40_17 0 1 19 (.move t6) ∧
  R1 c40_17 1 2 20 (.call ⟨.value (.func 23), #[t19], #[28]⟩) ∧
  R1 c40_17 2 3 7 (.assign t20) ∧
  RE c40_17 3 ∧
  Reg C c40_19 ∧
  R1 c40_19 0 1 21 (.move t7) ∧
  R1 c40_19 1 2 22 (.binOp .neq 29 t21 (.const (.int .i64 0)) 29) ∧
  RE c40_19 2 ∧
  Reg C c40_22 ∧
  R1 c40_22 0 1 23 (.move t7) ∧
  R1 c40_22 1 2 4 (.assign t23) ∧
  RE c40_22 2 ∧
  Seq C c40_21 c40_22 .ret ∧
  Cond C c40_20 t22 c40_21 .skip ∧
  Seq C c40_18 c40_19 c40_20 ∧
  Seq C c40_16 c40_17 c40_18 ∧
  Seq C c40_14 c40_15 c40_16 ∧
  Blk C c40_13 1 c40_14 ∧
  Reg C c40_23 ∧
  R1 c40_23 0 1 24 (.binOp .add 3 t15 (.const (.int .i64 1)) 3) ∧
  R1 c40_23 1 2 15 (.move t24) ∧
  RE c40_23 2 ∧
  Seq C c40_12 c40_13 c40_23 ∧
  Seq C c40_10 c40_11 c40_12 ∧
  Seq C c40_8 c40_9 c40_10 ∧
  Lp C c40_7 c40_8 ∧
  Blk C c40_6 0 c40_7 ∧
  Seq C c40_4 c40_5 c40_6 ∧
  Reg C c40_25 ∧
  R1 c40_25 0 1 25 (.move t1) ∧
  R1 c40_25 1 2 26 (.call ⟨.builtin .len, #[t25], #[28]⟩) ∧
  R1 c40_25 2 3 27 (.move t0) ∧
  R1 c40_25 3 4 28 (.call ⟨.builtin .len, #[t27], #[28]⟩) ∧
  R1 c40_25 4 5 29 (.binOp .sub 3 t26 t28 3) ∧
  R1 c40_25 5 6 8 (.assign t29) ∧
  RE c40_25 6 ∧
  Reg C c40_28 ∧
  R1 c40_28 0 1 30 (.move t8) ∧
  R1 c40_28 1 2 31 (.binOp .lss 3 t30 (.const (.int .i64 0)) 3) ∧
  RE c40_28 2 ∧
  Reg C c40_31 ∧
  R1 c40_31 0 1 4 (.assign (.const (.int .i64 13))) ∧
  RE c40_31 1 ∧
  Seq C c40_30 c40_31 .ret ∧
  Cond C c40_29 t31 c40_30 .skip ∧
  Seq C c40_27 c40_28 c40_29 ∧
  Reg C c40_34 ∧
  R1 c40_34 0 1 32 (.move t0) ∧
  R1 c40_34 1 2 33 (.call ⟨.builtin .len, #[t32], #[28]⟩) ∧
  R1 c40_34 2 3 34 (.move (.const (.int .i64 0))) ∧
  RE c40_34 3 ∧
  Reg C c40_38 ∧
  R1 c40_38 0 1 35 (.binOp .lss 3 t34 t33 3) ∧
  RE c40_38 1 ∧
  Cond C c40_40 t35 .skip (.exit 2) ∧
  Reg C c40_44 ∧
  R1 c40_44 0 1 36 (.move t34) ∧
  R1 c40_44 1 2 37 (.indexAddr 28 t32 t34) ∧
  R1 c40_44 2 3 38 (.load 3 t37) ∧
  R1 c40_44 3 4 9 (.assign t36) ∧
  R1 c40_44 4 5 10 (.assign t38) ∧
  RE c40_44 5 ∧
  Reg C c40_46 ∧
  R1 c40_46 0 1 39 (.move t10) ∧
  R1 c40_46 1 2 40 (.binOp .neq 3 t39 (.const (.int .i64 1)) 3) ∧
  R1 c40_46 2 3 41 (.move t40) ∧
  RG c40_46 3 4 (some 42) (.move t10) 41 true ∧
  RG c40_46 4 5 (some 43) (.move t1) 41 true ∧
  RG c40_46 5 6 (some 44) (.move t8) 41 true ∧
  RG c40_46 6 7 (some 45) (.move t9) 41 true ∧
  RG c40_46 7 8 (some 46) (.binOp .add 3 t44 t45 3) 41 true ∧
  RG c40_46 8 9 (some 47) (.indexAddr 28 t43 t46) 41 true ∧
  RG c40_46 9 10 (some 48) (.load 3 t47) 41 true ∧
  RG c40_46 10 11 (some 49) (.binOp .neq 3 t42 t48 3) 41 true ∧
  R1 c40_46 11 12 50 (.pick t41 t49 (.const (.bool false))) ∧
  RE c40_46 12 ∧
  Reg C c40_49 ∧
  R1 c40_49 0 1 4 (.assign (.const (.int .i64 13))) ∧
  RE c40_49 1 ∧
  Seq C c40_48 c40_49 .ret ∧
  Cond C c40_47 t50 c40_48 .skip ∧
  Seq C c40_45 c40_46 c40_47 ∧
  Seq C c40_43 c40_44 c40_45 ∧
  Blk C c40_42 3 c40_43 ∧
  Reg C c40_50 ∧
  R1 c40_50 0 1 51 (.binOp .add 3 t34 (.const (.int .i64 1)) 3) ∧
  R1 c40_50 1 2 34 (.move t51) ∧
  RE c40_50 2 ∧
  Seq C c40_41 c40_42 c40_50 ∧
  Seq C c40_39 c40_40 c40_41 ∧
  Seq C c40_37 c40_38 c40_39 ∧
  Lp C c40_36 c40_37 ∧
  Blk C c40_35 2 c40_36 ∧
  Seq C c40_33 c40_34 c40_35 ∧
  Reg C c40_52 ∧
  R1 c40_52 0 1 4 (.assign (.const (.int .i64 0))) ∧
  RE c40_52 1 ∧
  Seq C c40_51 c40_52 .ret ∧
  Seq C c40_32 c40_33 c40_51 ∧
  Seq C c40_26 c40_27 c40_32 ∧
  Seq C c40_24 c40_25 c40_26 ∧
  Seq C c40_3 c40_4 c40_24 ∧
  Seq C c40_1 c40_2 c40_3 :=
  ⟨reg_mk rfl, row1 rfl, rowE rfl, reg_mk rfl, row1 rfl, row1 rfl, row1 rfl, row1 rfl, row1 rfl, rowE rfl, reg_mk rfl, row1 rfl, rowE rfl, cond_mk rfl, reg_mk rfl, row1 rfl, row1 rfl, row1 rfl, rowE rfl, reg_mk rfl, row1 rfl, row1 rfl, row1 rfl, rowE rfl, reg_mk rfl, row1 rfl, row1 rfl, rowE rfl, reg_mk rfl, row1 rfl, row1 rfl, rowE rfl, seq_mk rfl, cond_mk rfl, seq_mk rfl, seq_mk rfl, seq_mk rfl, blk_mk rfl, reg_mk rfl, row1 rfl, row1 rfl, rowE rfl, seq_mk rfl, seq_mk rfl, seq_mk rfl, lp_mk rfl, blk_mk rfl, seq_mk rfl, reg_mk rfl, row1 rfl, row1 rfl, row1 rfl, row1 rfl, row1 rfl, row1 rfl, rowE rfl, reg_mk rfl, row1 rfl, row1 rfl, rowE rfl, reg_mk rfl, row1 rfl, rowE rfl, seq_mk rfl, cond_mk rfl, seq_mk rfl, reg_mk rfl, row1 rfl, row1 rfl, row1 rfl, rowE rfl, reg_mk rfl, row1 rfl, rowE rfl, cond_mk rfl, reg_mk rfl, row1 rfl, row1 rfl, row1 rfl, row1 rfl, row1 rfl, rowE rfl, reg_mk rfl, row1 rfl, row1 rfl, row1 rfl, rowG rfl rfl, rowG rfl rfl, rowG rfl rfl, rowG rfl rfl, rowG rfl rfl, rowG rfl rfl, rowG rfl rfl, rowG rfl rfl, row1 rfl, rowE rfl, reg_mk rfl, row1 rfl, rowE rfl, seq_mk rfl, cond_mk rfl, seq_mk rfl, seq_mk rfl, blk_mk rfl, reg_mk rfl, row1 rfl, row1 rfl, rowE rfl, seq_mk rfl, seq_mk rfl, seq_mk rfl, lp_mk rfl, blk_mk rfl, seq_mk rfl, reg_mk rfl, row1 rfl, rowE rfl, seq_mk rfl, seq_mk rfl, seq_mk rfl, seq_mk rfl, seq_mk rfl, seq_mk rfl⟩
theorem body40 : Try.f40.body = some c40_1 := rfl
/-! fluxion/shape.Axes -/
noncomputable def c42_1 : Code := (Try.f42.body).getD .skip
noncomputable def c42_2 : Code := kid c42_1 0
noncomputable def c42_3 : Code := kid c42_1 1
noncomputable def c42_4 : Code := kid c42_3 0
noncomputable def c42_5 : Code := kid c42_3 1
noncomputable def c42_6 : Code := kid c42_5 0
noncomputable def c42_7 : Code := kid c42_6 0
noncomputable def c42_8 : Code := kid c42_6 1
noncomputable def c42_9 : Code := kid c42_8 0
noncomputable def c42_10 : Code := kid c42_9 0
noncomputable def c42_11 : Code := kid c42_10 0
noncomputable def c42_12 : Code := kid c42_10 1
noncomputable def c42_13 : Code := kid c42_12 0
noncomputable def c42_14 : Code := kid c42_12 1
noncomputable def c42_15 : Code := kid c42_14 0
noncomputable def c42_16 : Code := kid c42_15 0
noncomputable def c42_17 : Code := kid c42_16 0
noncomputable def c42_18 : Code := kid c42_16 1
noncomputable def c42_19 : Code := kid c42_18 0
noncomputable def c42_20 : Code := kid c42_19 0
noncomputable def c42_21 : Code := kid c42_19 1
noncomputable def c42_22 : Code := kid c42_21 0
noncomputable def c42_23 : Code := kid c42_22 0
noncomputable def c42_24 : Code := kid c42_18 1
noncomputable def c42_25 : Code := kid c42_14 1
noncomputable def c42_26 : Code := kid c42_5 1
noncomputable def c42_27 : Code := kid c42_26 0
@[go_sem] theorem w42 : Reg C c42_2 ∧
  R1 c42_2 0 1 4 (.assign (.const (.int .i64 0))) ∧
  RE c42_2 1 ∧
  Reg C c42_4 ∧
  R1 c42_4 0 1 5 (.assign (.const (.int .i64 (-1)))) ∧
  RE c42_4 1 ∧
  Reg C c42_7 ∧
  R1 c42_7 0 1 8 (.move t0) ∧
  R1 c42_7 1 2 9 (.call ⟨.builtin .len, #[t8], #[23]⟩) ∧
  R1 c42_7 2 3 10 (.move (.const (.int .i64 0))) ∧
  RE c42_7 3 ∧
  Reg C c42_11 ∧
  R1 c42_11 0 1 11 (.binOp .lss 3 t10 t9 3) ∧
  RE c42_11 1 ∧
  Cond C c42_13 t11 .skip (.exit 0) ∧
  Reg C c42_17 ∧
  R1 c42_17 0 1 12 (.indexAddr 23 t8 t10) ∧
  R1 c42_17 1 2 13 (.load 3 t12) ∧
  R1 c42_17 2 3 7 (.assign t13) ∧
  RE c42_17 3 ∧
  Reg C c42_20 ∧
  R1 c42_20 0 1 14 (.move t7) ∧
  R1 c42_20 1 2 15 (.move t5) ∧
  R1 c42_20 2 3 16 (.binOp .leq 3 t14 t15 3) ∧
  R1 c42_20 3 4 17 (.move t16) ∧
  RG c42_20 4 5 (some 18) (.move t7) 17 false ∧
  RG c42_20 5 6 (some 19) (.move t1) 17 false ∧
  RG c42_20 6 7 (some 20) (.binOp .geq 3 t18 t19 3) 17 false ∧
  R1 c42_20 7 8 21 (.pick t17 (.const (.bool true)) t20) ∧
  RE c42_20 8 ∧
  Reg C c42_23 ∧
  R1 c42_23 0 1 4 (.assign (.const (.int .i64 11))) ∧
  RE c42_23 1 ∧
  Seq C c42_22 c42_23 .ret ∧
  Cond C c42_21 t21 c42_22 .skip ∧
  Seq C c42_19 c42_20 c42_21 ∧
  Reg C c42_24 ∧
  R1 c42_24 0 1 22 (.move t7) ∧
  R1 c42_24 1 2 5 (.assign t22) ∧
  RE c42_24 2 ∧
  Seq C c42_18 c42_19 c42_24 ∧
  Seq C c42_16 c42_17 c42_18 ∧
  Blk C c42_15 1 c42_16 ∧
  Reg C c42_25 ∧
  R1 c42_25 0 1 23 (.binOp .add 3 t10 (.const (.int .i64 1)) 3) ∧
  R1 c42_25 1 2 10 (.move t23) ∧
  RE c42_25 2 ∧
  Seq C c42_14 c42_15 c42_25 ∧
  Seq C c42_12 c42_13 c42_14 ∧
  Seq C c42_10 c42_11 c42_12 ∧
  Lp C c42_9 c42_10 ∧
  Blk C c42_8 0 c42_9 ∧
  Seq C c42_6 c42_7 c42_8 ∧
  Reg C c42_27 ∧
  R1 c42_27 0 1 4 (.assign (.const (.int .i64 0))) ∧
  RE c42_27 1 ∧
  Seq C c42_26 c42_27 .ret ∧
  Seq C c42_5 c42_6 c42_26 ∧
  Seq C c42_3 c42_4 c42_5 ∧
  Seq C c42_1 c42_2 c42_3 :=
  ⟨reg_mk rfl, row1 rfl, rowE rfl, reg_mk rfl, row1 rfl, rowE rfl, reg_mk rfl, row1 rfl, row1 rfl, row1 rfl, rowE rfl, reg_mk rfl, row1 rfl, rowE rfl, cond_mk rfl, reg_mk rfl, row1 rfl, row1 rfl, row1 rfl, rowE rfl, reg_mk rfl, row1 rfl, row1 rfl, row1 rfl, row1 rfl, rowG rfl rfl, rowG rfl rfl, rowG rfl rfl, row1 rfl, rowE rfl, reg_mk rfl, row1 rfl, rowE rfl, seq_mk rfl, cond_mk rfl, seq_mk rfl, reg_mk rfl, row1 rfl, row1 rfl, rowE rfl, seq_mk rfl, seq_mk rfl, blk_mk rfl, reg_mk rfl, row1 rfl, row1 rfl, rowE rfl, seq_mk rfl, seq_mk rfl, seq_mk rfl, lp_mk rfl, blk_mk rfl, seq_mk rfl, reg_mk rfl, row1 rfl, rowE rfl, seq_mk rfl, seq_mk rfl, seq_mk rfl, seq_mk rfl⟩
theorem body42 : Try.f42.body = some c42_1 := rfl
/-! slices.Contains[[]int,int] -/
noncomputable def c68_1 : Code := (Try.f68.body).getD .skip
noncomputable def c68_2 : Code := kid c68_1 0
noncomputable def c68_3 : Code := kid c68_1 1
noncomputable def c68_4 : Code := kid c68_3 0
@[go_sem] theorem w68 : Reg C c68_2 ∧
  R1 c68_2 0 1 4 (.assign (.const (.bool false))) ∧
  RE c68_2 1 ∧
  Reg C c68_4 ∧
  R1 c68_4 0 1 5 (.move t0) ∧
  R1 c68_4 1 2 6 (.move t1) ∧
  R1 c68_4 2 3 7 (.call ⟨.value (.func 79), #[t5, t6], #[23, 3]⟩) ∧
  R1 c68_4 3 4 8 (.binOp .geq 3 t7 (.const (.int .i64 0)) 3) ∧
  R1 c68_4 4 5 4 (.assign t8) ∧
  RE c68_4 5 ∧
  Seq C c68_3 c68_4 .ret ∧
  Seq C c68_1 c68_2 c68_3 :=
  ⟨reg_mk rfl, row1 rfl, rowE rfl, reg_mk rfl, row1 rfl, row1 rfl, row1 rfl, row1 rfl, row1 rfl, rowE rfl, seq_mk rfl, seq_mk rfl⟩
theorem body68 : Try.f68.body = some c68_1 := rfl
/-! slices.Index[[]int,int] -/
noncomputable def c79_1 : Code := (Try.f79.body).getD .skip
noncomputable def c79_2 : Code := kid c79_1 0
noncomputable def c79_3 : Code := kid c79_1 1
noncomputable def c79_4 : Code := kid c79_3 0
noncomputable def c79_5 : Code := kid c79_4 0
noncomputable def c79_6 : Code := kid c79_4 1
noncomputable def c79_7 : Code := kid c79_6 0
noncomputable def c79_8 : Code := kid c79_7 0
noncomputable def c79_9 : Code := kid c79_8 0
noncomputable def c79_10 : Code := kid c79_8 1
noncomputable def c79_11 : Code := kid c79_10 0
noncomputable def c79_12 : Code := kid c79_10 1
noncomputable def c79_13 : Code := kid c79_12 0
noncomputable def c79_14 : Code := kid c79_13 0
noncomputable def c79_15 : Code := kid c79_14 0
noncomputable def c79_16 : Code := kid c79_14 1
noncomputable def c79_17 : Code := kid c79_16 0
noncomputable def c79_18 : Code := kid c79_16 1
noncomputable def c79_19 : Code := kid c79_18 0
noncomputable def c79_20 : Code := kid c79_19 0
noncomputable def c79_21 : Code := kid c79_12 1
noncomputable def c79_22 : Code := kid c79_3 1
noncomputable def c79_23 : Code := kid c79_22 0
@[go_sem] theorem w79 : Reg C c79_2 ∧
  R1 c79_2 0 1 4 (.assign (.const (.int .i64 0))) ∧
  RE c79_2 1 ∧
  Reg C c79_5 ∧
  R1 c79_5 0 1 6 (.move t0) ∧
  R1 c79_5 1 2 7 (.call ⟨.builtin .len, #[t6], #[23]⟩) ∧
  R1 c79_5 2 3 8 (.move (.const (.int .i64 0))) ∧
  RE c79_5 3 ∧
  Reg C c79_9 ∧
  R1 c79_9 0 1 9 (.binOp .lss 3 t8 t7 3) ∧
  RE c79_9 1 ∧
  Cond C c79_11 t9 .skip (.exit 0) ∧
  Reg C c79_15 ∧
  R1 c79_15 0 1 10 (.move t8) ∧
  R1 c79_15 1 2 5 (.assign t10) ∧
  RE c79_15 2 ∧
  Reg C c79_17 ∧
  R1 c79_17 0 1 11 (.move t1) ∧
  R1 c79_17 1 2 12 (.move t0) ∧
  R1 c79_17 2 3 13 (.move t5) ∧
  R1 c79_17 3 4 14 (.indexAddr 23 t12 t13) ∧
  R1 c79_17 4 5 15 (.load 3 t14) ∧
  R1 c79_17 5 6 16 (.binOp .eql 3 t11 t15 3) ∧
  RE c79_17 6 ∧
  Reg C c79_20 ∧
  R1 c79_20 0 1 17 (.move t5) ∧
  R1 c79_20 1 2 4 (.assign t17) ∧
  RE c79_20 2 ∧
  Seq C c79_19 c79_20 .ret ∧
  Cond C c79_18 t16 c79_19 .skip ∧
  Seq C c79_16 c79_17 c79_18 ∧
  Seq C c79_14 c79_15 c79_16 ∧
  Blk C c79_13 1 c79_14 ∧
  Reg C c79_21 ∧
  R1 c79_21 0 1 18 (.binOp .add 3 t8 (.const (.int .i64 1)) 3) ∧
  R1 c79_21 1 2 8 (.move t18) ∧
  RE c79_21 2 ∧
  Seq C c79_12 c79_13 c79_21 ∧
  Seq C c79_10 c79_11 c79_12 ∧
  Seq C c79_8 c79_9 c79_10 ∧
  Lp C c79_7 c79_8 ∧
  Blk C c79_6 0 c79_7 ∧
  Seq C c79_4 c79_5 c79_6 ∧
  Reg C c79_23 ∧
  R1 c79_23 0 1 4 (.assign (.const (.int .i64 (-1)))) ∧
  RE c79_23 1 ∧
  Seq C c79_22 c79_23 .ret ∧
  Seq C c79_3 c79_4 c79_22 ∧
  Seq C c79_1 c79_2 c79_3 :=
  ⟨reg_mk rfl, row1 rfl, rowE rfl, reg_mk rfl, row1 rfl, row1 rfl, row1 rfl, rowE rfl, reg_mk rfl, row1 rfl, rowE rfl, cond_mk rfl, reg_mk rfl, row1 rfl, row1 rfl, rowE rfl, reg_mk rfl, row1 rfl, row1 rfl, row1 rfl, row1 rfl, row1 rfl, row1 rfl, rowE rfl, reg_mk rfl, row1 rfl, row1 rfl, rowE rfl, seq_mk rfl, cond_mk rfl, seq_mk rfl, seq_mk rfl, blk_mk rfl, reg_mk rfl, row1 rfl, row1 rfl, rowE rfl, seq_mk rfl, seq_mk rfl, seq_mk rfl, lp_mk rfl, blk_mk rfl, seq_mk rfl, reg_mk rfl, row1 rfl, rowE rfl, seq_mk rfl, seq_mk rfl, seq_mk rfl⟩
theorem body79 : Try.f79.body = some c79_1 := rfl
/-! fluxion/shape.Drop$1 -/
noncomputable def c62_1 : Code := (Try.f62.body).getD .skip
noncomputable def c62_2 : Code := kid c62_1 0
noncomputable def c62_3 : Code := kid c62_1 1
noncomputable def c62_4 : Code := kid c62_3 0
@[go_sem] theorem w62 : Reg C c62_2 ∧
  R1 c62_2 0 1 2 (.assign (.const (.slice none 0 0))) ∧
  RE c62_2 1 ∧
  Reg C c62_4 ∧
  R1 c62_4 0 1 3 (.move t0) ∧
  R1 c62_4 1 2 2 (.assign t3) ∧
  RE c62_4 2 ∧
  Seq C c62_3 c62_4 .ret ∧
  Seq C c62_1 c62_2 c62_3 :=
  ⟨reg_mk rfl, row1 rfl, rowE rfl, reg_mk rfl, row1 rfl, row1 rfl, rowE rfl, seq_mk rfl, seq_mk rfl⟩
theorem body62 : Try.f62.body = some c62_1 := rfl
/-! fluxion/shape.turned -/
noncomputable def c61_1 : Code := (Try.f61.body).getD .skip
noncomputable def c61_2 : Code := kid c61_1 0
noncomputable def c61_3 : Code := kid c61_1 1
noncomputable def c61_4 : Code := kid c61_3 0
noncomputable def c61_5 : Code := kid c61_4 0
noncomputable def c61_6 : Code := kid c61_4 1
noncomputable def c61_7 : Code := kid c61_6 0
noncomputable def c61_8 : Code := kid c61_7 0
noncomputable def c61_9 : Code := kid c61_8 0
noncomputable def c61_10 : Code := kid c61_8 1
noncomputable def c61_11 : Code := kid c61_10 0
noncomputable def c61_12 : Code := kid c61_10 1
noncomputable def c61_13 : Code := kid c61_12 0
noncomputable def c61_14 : Code := kid c61_13 0
noncomputable def c61_15 : Code := kid c61_14 0
noncomputable def c61_16 : Code := kid c61_14 1
noncomputable def c61_17 : Code := kid c61_16 0
noncomputable def c61_18 : Code := kid c61_16 1
noncomputable def c61_19 : Code := kid c61_18 0
noncomputable def c61_20 : Code := kid c61_18 1
noncomputable def c61_21 : Code := kid c61_12 1
noncomputable def c61_22 : Code := kid c61_3 1
noncomputable def c61_23 : Code := kid c61_22 0
@[go_sem] theorem w61 : Reg C c61_2 ∧
  R1 c61_2 0 1 6 (.assign (.const (.slice none 0 0))) ∧
  RE c61_2 1 ∧
  Reg C c61_5 ∧
  R1 c61_5 0 1 9 (.move t0) ∧
  R1 c61_5 1 2 10 (.call ⟨.builtin .len, #[t9], #[28]⟩) ∧
  R1 c61_5 2 3 11 (.move (.const (.int .i64 0))) ∧
  RE c61_5 3 ∧
  Reg C c61_9 ∧
  R1 c61_9 0 1 12 (.binOp .lss 3 t11 t10 3) ∧
  RE c61_9 1 ∧
  Cond C c61_11 t12 .skip (.exit 0) ∧
  Reg C c61_15 ∧
  R1 c61_15 0 1 13 (.move t11) ∧
  R1 c61_15 1 2 14 (.indexAddr 28 t9 t11) ∧
  R1 c61_15 2 3 15 (.load 3 t14) ∧
  R1 c61_15 3 4 7 (.assign t13) ∧
  R1 c61_15 4 5 8 (.assign t15) ∧
  RE c61_15 5 ∧
  Reg C c61_17 ∧
  R1 c61_17 0 1 16 (.move t1) ∧
  R1 c61_17 1 2 17 (.move t7) ∧
  R1 c61_17 2 3 18 (.call ⟨.value (.func 68), #[t16, t17], #[23, 3]⟩) ∧
  RE c61_17 3 ∧
  Reg C c61_19 ∧
  R1 c61_19 0 1 19 (.move t2) ∧
  R1 c61_19 1 2 20 (.move t6) ∧
  R1 c61_19 2 3 21 (.call ⟨.value t19, #[t20], #[28]⟩) ∧
  R1 c61_19 3 4 6 (.assign t21) ∧
  RE c61_19 4 ∧
  Reg C c61_20 ∧
  R1 c61_20 0 1 22 (.move t6) ∧
  R1 c61_20 1 2 23 (.move t8) ∧
  R1 c61_20 2 3 24 (.buildSlice 28 1 #[(0, t23)]) ∧
  R1 c61_20 3 4 25 (.call ⟨.builtin .append, #[t22, t24], #[28, 28]⟩) ∧
  R1 c61_20 4 5 6 (.assign t25) ∧
  RE c61_20 5 ∧
  Cond C c61_18 t18 c61_19 c61_20 ∧
  Seq C c61_16 c61_17 c61_18 ∧
  Seq C c61_14 c61_15 c61_16 ∧
  Blk C c61_13 1 c61_14 ∧
  Reg C c61_21 ∧
  R1 c61_21 0 1 26 (.binOp .add 3 t11 (.const (.int .i64 1)) 3) ∧
  R1 c61_21 1 2 11 (.move t26) ∧
  RE c61_21 2 ∧
  Seq C c61_12 c61_13 c61_21 ∧
  Seq C c61_10 c61_11 c61_12 ∧
  Seq C c61_8 c61_9 c61_10 ∧
  Lp C c61_7 c61_8 ∧
  Blk C c61_6 0 c61_7 ∧
  Seq C c61_4 c61_5 c61_6 ∧
  Reg C c61_23 ∧
  R1 c61_23 0 1 27 (.move t6) ∧
  R1 c61_23 1 2 6 (.assign t27) ∧
  RE c61_23 2 ∧
  Seq C c61_22 c61_23 .ret ∧
  Seq C c61_3 c61_4 c61_22 ∧
  Seq C c61_1 c61_2 c61_3 :=
  ⟨reg_mk rfl, row1 rfl, rowE rfl, reg_mk rfl, row1 rfl, row1 rfl, row1 rfl, rowE rfl, reg_mk rfl, row1 rfl, rowE rfl, cond_mk rfl, reg_mk rfl, row1 rfl, row1 rfl, row1 rfl, row1 rfl, row1 rfl, rowE rfl, reg_mk rfl, row1 rfl, row1 rfl, row1 rfl, rowE rfl, reg_mk rfl, row1 rfl, row1 rfl, row1 rfl, row1 rfl, rowE rfl, reg_mk rfl, row1 rfl, row1 rfl, row1 rfl, row1 rfl, row1 rfl, rowE rfl, cond_mk rfl, seq_mk rfl, seq_mk rfl, blk_mk rfl, reg_mk rfl, row1 rfl, row1 rfl, rowE rfl, seq_mk rfl, seq_mk rfl, seq_mk rfl, lp_mk rfl, blk_mk rfl, seq_mk rfl, reg_mk rfl, row1 rfl, row1 rfl, rowE rfl, seq_mk rfl, seq_mk rfl, seq_mk rfl⟩
theorem body61 : Try.f61.body = some c61_1 := rfl
/-! fluxion/shape.Drop -/
noncomputable def c43_1 : Code := (Try.f43.body).getD .skip
noncomputable def c43_2 : Code := kid c43_1 0
noncomputable def c43_3 : Code := kid c43_1 1
noncomputable def c43_4 : Code := kid c43_3 0
@[go_sem] theorem w43 : Reg C c43_2 ∧
  R1 c43_2 0 1 4 (.assign (.const (.slice none 0 0))) ∧
  RE c43_2 1 ∧
  Reg C c43_4 ∧
  R1 c43_4 0 1 5 (.move t0) ∧
  R1 c43_4 1 2 6 (.move t1) ∧
  R1 c43_4 2 3 7 (.call ⟨.value (.func 61), #[t5, t6, .func 62], #[28, 23, 62]⟩) ∧
  R1 c43_4 3 4 4 (.assign t7) ∧
  RE c43_4 4 ∧
  Seq C c43_3 c43_4 .ret ∧
  Seq C c43_1 c43_2 c43_3 :=
  ⟨reg_mk rfl, row1 rfl, rowE rfl, reg_mk rfl, row1 rfl, row1 rfl, row1 rfl, row1 rfl, rowE rfl, seq_mk rfl, seq_mk rfl⟩
theorem body43 : Try.f43.body = some c43_1 := rfl
/-! slices.Clone[fluxion/api.Shape,int] -/
noncomputable def c35_1 : Code := (Try.f35.body).getD .skip
noncomputable def c35_2 : Code := kid c35_1 0
noncomputable def c35_3 : Code := kid c35_1 1
noncomputable def c35_4 : Code := kid c35_3 0
noncomputable def c35_5 : Code := kid c35_4 0
noncomputable def c35_6 : Code := kid c35_4 1
noncomputable def c35_7 : Code := kid c35_6 0
noncomputable def c35_8 : Code := kid c35_7 0
noncomputable def c35_9 : Code := kid c35_3 1
noncomputable def c35_10 : Code := kid c35_9 0
@[go_sem] theorem w35 : Reg C c35_2 ∧
  R1 c35_2 0 1 2 (.assign (.const (.slice none 0 0))) ∧
  RE c35_2 1 ∧
  Reg C c35_5 ∧
  R1 c35_5 0 1 3 (.move t0) ∧
  R1 c35_5 1 2 4 (.binOp .eql 28 t3 (.const (.slice none 0 0)) 28) ∧
  RE c35_5 2 ∧
  Reg C c35_8 ∧
  R1 c35_8 0 1 2 (.assign (.const (.slice none 0 0))) ∧
  RE c35_8 1 ∧
  Seq C c35_7 c35_8 .ret ∧
  Cond C c35_6 t4 c35_7 .skip ∧
  Seq C c35_4 c35_5 c35_6 ∧
  Reg C c35_10 ∧
  R1 c35_10 0 1 5 (.buildSlice 28 0 #[]) ∧
  R1 c35_10 1 2 6 (.move t0) ∧
  R1 c35_10 2 3 7 (.call ⟨.builtin .append, #[t5, t6], #[28, 28]⟩) ∧
  R1 c35_10 3 4 2 (.assign t7) ∧
  RE c35_10 4 ∧
  Seq C c35_9 c35_10 .ret ∧
  Seq C c35_3 c35_4 c35_9 ∧
  Seq C c35_1 c35_2 c35_3 :=
  ⟨reg_mk rfl, row1 rfl, rowE rfl, reg_mk rfl, row1 rfl, row1 rfl, rowE rfl, reg_mk rfl, row1 rfl, rowE rfl, seq_mk rfl, cond_mk rfl, seq_mk rfl, reg_mk rfl, row1 rfl, row1 rfl, row1 rfl, row1 rfl, rowE rfl, seq_mk rfl, seq_mk rfl, seq_mk rfl⟩
theorem body35 : Try.f35.body = some c35_1 := rfl
/-! slices.Clone[[]int,int] -/
noncomputable def c36_1 : Code := (Try.f36.body).getD .skip
noncomputable def c36_2 : Code := kid c36_1 0
noncomputable def c36_3 : Code := kid c36_1 1
noncomputable def c36_4 : Code := kid c36_3 0
noncomputable def c36_5 : Code := kid c36_4 0
noncomputable def c36_6 : Code := kid c36_4 1
noncomputable def c36_7 : Code := kid c36_6 0
noncomputable def c36_8 : Code := kid c36_7 0
noncomputable def c36_9 : Code := kid c36_3 1
noncomputable def c36_10 : Code := kid c36_9 0
@[go_sem] theorem w36 : Reg C c36_2 ∧
  R1 c36_2 0 1 2 (.assign (.const (.slice none 0 0))) ∧
  RE c36_2 1 ∧
  Reg C c36_5 ∧
  R1 c36_5 0 1 3 (.move t0) ∧
  R1 c36_5 1 2 4 (.binOp .eql 23 t3 (.const (.slice none 0 0)) 23) ∧
  RE c36_5 2 ∧
  Reg C c36_8 ∧
  R1 c36_8 0 1 2 (.assign (.const (.slice none 0 0))) ∧
  RE c36_8 1 ∧
  Seq C c36_7 c36_8 .ret ∧
  Cond C c36_6 t4 c36_7 .skip ∧
  Seq C c36_4 c36_5 c36_6 ∧
  Reg C c36_10 ∧
  R1 c36_10 0 1 5 (.buildSlice 23 0 #[]) ∧
  R1 c36_10 1 2 6 (.move t0) ∧
  R1 c36_10 2 3 7 (.call ⟨.builtin .append, #[t5, t6], #[23, 23]⟩) ∧
  R1 c36_10 3 4 2 (.assign t7) ∧
  RE c36_10 4 ∧
  Seq C c36_9 c36_10 .ret ∧
  Seq C c36_3 c36_4 c36_9 ∧
  Seq C c36_1 c36_2 c36_3 :=
  ⟨reg_mk rfl, row1 rfl, rowE rfl, reg_mk rfl, row1 rfl, row1 rfl, rowE rfl, reg_mk rfl, row1 rfl, rowE rfl, seq_mk rfl, cond_mk rfl, seq_mk rfl, reg_mk rfl, row1 rfl, row1 rfl, row1 rfl, row1 rfl, rowE rfl, seq_mk rfl, seq_mk rfl, seq_mk rfl⟩
theorem body36 : Try.f36.body = some c36_1 := rfl
end Go.Proofs.Ytlomgfdepllanaa
end
