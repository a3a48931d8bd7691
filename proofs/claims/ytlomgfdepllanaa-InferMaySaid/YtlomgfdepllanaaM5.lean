/-
  Parts CodeB, CodeD, CodeE, one behind the other: a program logic of our own, contracts of functions.
-/
import Derived.Test.YtlomgfdepllanaaM4
section
set_option maxRecDepth 100000
namespace Go.Proofs.Ytlomgfdepllanaa
open Go Go.Bv
/-! fluxion/fluxionref11.Check -/
noncomputable def c14_1 : Code := (Try.f14.body).getD .skip
noncomputable def c14_2 : Code := kid c14_1 0
noncomputable def c14_3 : Code := kid c14_1 1
noncomputable def c14_4 : Code := kid c14_3 0
noncomputable def c14_5 : Code := kid c14_4 0
noncomputable def c14_6 : Code := kid c14_4 1
noncomputable def c14_7 : Code := kid c14_6 0
noncomputable def c14_8 : Code := kid c14_7 0
noncomputable def c14_9 : Code := kid c14_3 1
noncomputable def c14_10 : Code := kid c14_9 0
noncomputable def c14_11 : Code := kid c14_10 0
noncomputable def c14_12 : Code := kid c14_10 1
noncomputable def c14_13 : Code := kid c14_12 0
noncomputable def c14_14 : Code := kid c14_13 0
noncomputable def c14_15 : Code := kid c14_9 1
noncomputable def c14_16 : Code := kid c14_15 0
noncomputable def c14_17 : Code := kid c14_15 1
noncomputable def c14_18 : Code := kid c14_17 0
noncomputable def c14_19 : Code := kid c14_18 0
noncomputable def c14_20 : Code := kid c14_18 1
noncomputable def c14_21 : Code := kid c14_20 0
noncomputable def c14_22 : Code := kid c14_21 0
noncomputable def c14_23 : Code := kid c14_17 1
noncomputable def c14_24 : Code := kid c14_23 0
noncomputable def c14_25 : Code := kid c14_24 0
noncomputable def c14_26 : Code := kid c14_24 1
noncomputable def c14_27 : Code := kid c14_26 0
noncomputable def c14_28 : Code := kid c14_27 0
noncomputable def c14_29 : Code := kid c14_23 1
noncomputable def c14_30 : Code := kid c14_29 0
noncomputable def c14_31 : Code := kid c14_30 0
noncomputable def c14_32 : Code := kid c14_30 1
noncomputable def c14_33 : Code := kid c14_32 0
noncomputable def c14_34 : Code := kid c14_33 0
noncomputable def c14_35 : Code := kid c14_29 1
noncomputable def c14_36 : Code := kid c14_35 0
@[go_sem] theorem w14 : Reg C c14_2 ∧
  R1 c14_2 0 1 3 (.box 25 t1) ∧
  R1 c14_2 1 2 4 (.assign (.const (.int .i64 0))) ∧
  RE c14_2 2 ∧
  Reg C c14_5 ∧
  R1 c14_5 0 1 7 (.move t0) ∧
  R1 c14_5 1 2 8 (.binOp .lss 3 t7 (.const (.int .i64 1)) 3) ∧
  R1 c14_5 2 3 9 (.move t8) ∧
  RG c14_5 3 4 (some 10) (.move t0) 9 false ∧
  RG c14_5 4 5 (some 11) (.binOp .gtr 3 t10 (.const (.int .i64 3)) 3) 9 false ∧
  R1 c14_5 5 6 12 (.pick t9 (.const (.bool true)) t11) ∧
  RE c14_5 6 ∧
  Reg C c14_8 ∧
  R1 c14_8 0 1 4 (.assign (.const (.int .i64 8))) ∧
  RE c14_8 1 ∧
  Seq C c14_7 c14_8 .ret ∧
  Cond C c14_6 t12 c14_7 .skip ∧
  Seq C c14_4 c14_5 c14_6 ∧
  Reg C c14_11 ∧
  R1 c14_11 0 1 13 (.fieldAddr 25 t3 0) ∧
  R1 c14_11 1 2 14 (.load 22 t13) ∧
  R1 c14_11 2 3 15 (.move t0) ∧
  R1 c14_11 3 4 16 (.call ⟨.value (.func 15), #[t14, t15], #[22, 3]⟩) ∧
  R1 c14_11 4 5 17 (.unOp .not 4 t16) ∧
  RE c14_11 5 ∧
  Reg C c14_14 ∧
  R1 c14_14 0 1 4 (.assign (.const (.int .i64 9))) ∧
  RE c14_14 1 ∧
  Seq C c14_13 c14_14 .ret ∧
  Cond C c14_12 t17 c14_13 .skip ∧
  Seq C c14_10 c14_11 c14_12 ∧
  Reg C c14_16 ∧
  R1 c14_16 0 1 19 (.fieldAddr 25 t3 0) ∧
  R1 c14_16 1 2 20 (.load 22 t19) ∧
  R1 c14_16 2 3 21 (.call ⟨.value (.func 27), #[t20], #[22]⟩) ∧
  R1 c14_16 3 4 18 (.move t21) ∧
  R1 c14_16 4 5 22 (.extract t18 0) ∧
  R1 c14_16 5 6 23 (.extract t18 1) ∧
  R1 c14_16 6 7 5 (.assign t22) ∧
  R1 c14_16 7 8 6 (.assign t23) ∧
  RE c14_16 8 ∧
  Reg C c14_19 ∧
  R1 c14_19 0 1 24 (.fieldAddr 25 t3 1) ∧
  R1 c14_19 1 2 25 (.load 23 t24) ∧
  R1 c14_19 2 3 26 (.call ⟨.builtin .len, #[t25], #[23]⟩) ∧
  R1 c14_19 3 4 27 (.move t5) ∧
  R1 c14_19 4 5 28 (.binOp .lss 3 t26 t27 3) ∧
  R1 c14_19 5 6 29 (.move t28) ∧
  RG c14_19 6 7 (some 30) (.fieldAddr 25 t3 1) 29 false ∧
  RG c14_19 7 8 (some 31) (.load 23 t30) 29 false ∧
  RG c14_19 8 9 (some 32) (.call ⟨.builtin .len, #[t31], #[23]⟩) 29 false ∧
  RG c14_19 9 10 (some 33) (.move t6) 29 false ∧
  RG c14_19 10 11 (some 34) (.binOp .gtr 3 t32 t33 3) 29 false ∧
  R1 c14_19 11 12 35 (.pick t29 (.const (.bool true)) t34) ∧
  RE c14_19 12 ∧
  Reg C c14_22 ∧
  R1 c14_22 0 1 4 (.assign (.const (.int .i64 10))) ∧
  RE c14_22 1 ∧
  Seq C c14_21 c14_22 .ret ∧
  Cond C c14_20 t35 c14_21 .skip ∧
  Seq C c14_18 c14_19 c14_20 ∧
  Reg C c14_25 ∧
  R1 c14_25 0 1 36 (.fieldAddr 25 t3 2) ∧
  R1 c14_25 1 2 37 (.load 23 t36) ∧
  R1 c14_25 2 3 38 (.call ⟨.builtin .len, #[t37], #[23]⟩) ∧
  R1 c14_25 3 4 39 (.binOp .eql 3 t38 (.const (.int .i64 0)) 3) ∧
  R1 c14_25 4 5 40 (.move t39) ∧
  RG c14_25 5 6 (some 41) (.move t0) 40 true ∧
  RG c14_25 6 7 (some 42) (.fieldAddr 25 t3 0) 40 true ∧
  RG c14_25 7 8 (some 43) (.load 22 t42) 40 true ∧
  RG c14_25 8 9 (some 44) (.call ⟨.value (.func 17), #[t41, t43], #[3, 22]⟩) 40 true ∧
  R1 c14_25 9 10 45 (.pick t40 t44 (.const (.bool false))) ∧
  RE c14_25 10 ∧
  Reg C c14_28 ∧
  R1 c14_28 0 1 4 (.assign (.const (.int .i64 0))) ∧
  RE c14_28 1 ∧
  Seq C c14_27 c14_28 .ret ∧
  Cond C c14_26 t45 c14_27 .skip ∧
  Seq C c14_24 c14_25 c14_26 ∧
  Reg C c14_31 ∧
  R1 c14_31 0 1 46 (.fieldAddr 25 t3 0) ∧
  R1 c14_31 1 2 47 (.load 22 t46) ∧
  R1 c14_31 2 3 48 (.fieldAddr 25 t3 2) ∧
  R1 c14_31 3 4 49 (.load 23 t48) ∧
  R1 c14_31 4 5 50 (.call ⟨.value (.func 28), #[t47, t49], #[22, 23]⟩) ∧
  R1 c14_31 5 6 51 (.unOp .not 4 t50) ∧
  RE c14_31 6 ∧
  Reg C c14_34 ∧
  R1 c14_34 0 1 4 (.assign (.const (.int .i64 11))) ∧
  RE c14_34 1 ∧
  Seq C c14_33 c14_34 .ret ∧
  Cond C c14_32 t51 c14_33 .skip ∧
  Seq C c14_30 c14_31 c14_32 ∧
  Reg C c14_36 ∧
  R1 c14_36 0 1 4 (.assign (.const (.int .i64 0))) ∧
  RE c14_36 1 ∧
  Seq C c14_35 c14_36 .ret ∧
  Seq C c14_29 c14_30 c14_35 ∧
  Seq C c14_23 c14_24 c14_29 ∧
  Seq C c14_17 c14_18 c14_23 ∧
  Seq C c14_15 c14_16 c14_17 ∧
  Seq C c14_9 c14_10 c14_15 ∧
  Seq C c14_3 c14_4 c14_9 ∧
  Seq C c14_1 c14_2 c14_3 :=
  ⟨reg_mk rfl, row1 rfl, row1 rfl, rowE rfl, reg_mk rfl, row1 rfl, row1 rfl, row1 rfl, rowG rfl rfl, rowG rfl rfl, row1 rfl, rowE rfl, reg_mk rfl, row1 rfl, rowE rfl, seq_mk rfl, cond_mk rfl, seq_mk rfl, reg_mk rfl, row1 rfl, row1 rfl, row1 rfl, row1 rfl, row1 rfl, rowE rfl, reg_mk rfl, row1 rfl, rowE rfl, seq_mk rfl, cond_mk rfl, seq_mk rfl, reg_mk rfl, row1 rfl, row1 rfl, row1 rfl, row1 rfl, row1 rfl, row1 rfl, row1 rfl, row1 rfl, rowE rfl, reg_mk rfl, row1 rfl, row1 rfl, row1 rfl, row1 rfl, row1 rfl, row1 rfl, rowG rfl rfl, rowG rfl rfl, rowG rfl rfl, rowG rfl rfl, rowG rfl rfl, row1 rfl, rowE rfl, reg_mk rfl, row1 rfl, rowE rfl, seq_mk rfl, cond_mk rfl, seq_mk rfl, reg_mk rfl, row1 rfl, row1 rfl, row1 rfl, row1 rfl, row1 rfl, rowG rfl rfl, rowG rfl rfl, rowG rfl rfl, rowG rfl rfl, row1 rfl, rowE rfl, reg_mk rfl, row1 rfl, rowE rfl, seq_mk rfl, cond_mk rfl, seq_mk rfl, reg_mk rfl, row1 rfl, row1 rfl, row1 rfl, row1 rfl, row1 rfl, row1 rfl, rowE rfl, reg_mk rfl, row1 rfl, rowE rfl, seq_mk rfl, cond_mk rfl, seq_mk rfl, reg_mk rfl, row1 rfl, rowE rfl, seq_mk rfl, seq_mk rfl, seq_mk rfl, seq_mk rfl, seq_mk rfl, seq_mk rfl, seq_mk rfl, seq_mk rfl⟩
theorem body14 : Try.f14.body = some c14_1 := rfl
/-! fluxion/fluxionref11.Explicit -/
noncomputable def c16_1 : Code := (Try.f16.body).getD .skip
noncomputable def c16_2 : Code := kid c16_1 0
noncomputable def c16_3 : Code := kid c16_1 1
noncomputable def c16_4 : Code := kid c16_3 0
noncomputable def c16_5 : Code := kid c16_4 0
noncomputable def c16_6 : Code := kid c16_4 1
noncomputable def c16_7 : Code := kid c16_6 0
noncomputable def c16_8 : Code := kid c16_7 0
noncomputable def c16_9 : Code := kid c16_3 1
noncomputable def c16_10 : Code := kid c16_9 0
noncomputable def c16_11 : Code := kid c16_10 0
noncomputable def c16_12 : Code := kid c16_10 1
noncomputable def c16_13 : Code := kid c16_12 0
noncomputable def c16_14 : Code := kid c16_9 1
noncomputable def c16_15 : Code := kid c16_14 0
noncomputable def c16_16 : Code := kid c16_14 1
noncomputable def c16_17 : Code := kid c16_16 0
noncomputable def c16_18 : Code := kid c16_17 0
noncomputable def c16_19 : Code := kid c16_17 1
noncomputable def c16_20 : Code := kid c16_19 0
noncomputable def c16_21 : Code := kid c16_20 0
noncomputable def c16_22 : Code := kid c16_20 1
noncomputable def c16_23 : Code := kid c16_22 0
noncomputable def c16_24 : Code := kid c16_23 0
noncomputable def c16_25 : Code := kid c16_22 1
noncomputable def c16_26 : Code := kid c16_25 0
noncomputable def c16_27 : Code := kid c16_25 1
noncomputable def c16_28 : Code := kid c16_27 0
noncomputable def c16_29 : Code := kid c16_28 0
noncomputable def c16_30 : Code := kid c16_27 1
noncomputable def c16_31 : Code := kid c16_30 0
noncomputable def c16_32 : Code := kid c16_30 1
noncomputable def c16_33 : Code := kid c16_32 0
noncomputable def c16_34 : Code := kid c16_33 0
noncomputable def c16_35 : Code := kid c16_34 0
noncomputable def c16_36 : Code := kid c16_34 1
noncomputable def c16_37 : Code := kid c16_36 0
noncomputable def c16_38 : Code := kid c16_37 0
noncomputable def c16_39 : Code := kid c16_38 0
noncomputable def c16_40 : Code := kid c16_39 0
noncomputable def c16_41 : Code := kid c16_39 1
noncomputable def c16_42 : Code := kid c16_38 1
noncomputable def c16_43 : Code := kid c16_42 0
noncomputable def c16_44 : Code := kid c16_43 0
noncomputable def c16_45 : Code := kid c16_42 1
noncomputable def c16_46 : Code := kid c16_33 1
noncomputable def c16_47 : Code := kid c16_46 0
noncomputable def c16_48 : Code := kid c16_16 1
noncomputable def c16_49 : Code := kid c16_48 0
noncomputable def c16_50 : Code := kid c16_49 0
noncomputable def c16_51 : Code := kid c16_49 1
noncomputable def c16_52 : Code := kid c16_51 0
noncomputable def c16_53 : Code := kid c16_52 0
noncomputable def c16_54 : Code := kid c16_53 0
noncomputable def c16_55 : Code := kid c16_54 0
noncomputable def c16_56 : Code := kid c16_54 1
noncomputable def c16_57 : Code := kid c16_53 1
noncomputable def c16_58 : Code := kid c16_57 0
noncomputable def c16_59 : Code := kid c16_58 0
noncomputable def c16_60 : Code := kid c16_57 1
noncomputable def c16_61 : Code := kid c16_48 1
noncomputable def c16_62 : Code := kid c16_61 0
@[go_sem] theorem w16 : Reg C c16_2 ∧
  R1 c16_2 0 1 4 (.box 25 t1) ∧
  R1 c16_2 1 2 6 (.assign (.const (.slice none 0 0))) ∧
  RE c16_2 2 ∧
  Reg C c16_5 ∧
  R1 c16_5 0 1 10 (.move t0) ∧
  R1 c16_5 1 2 11 (.load 25 t4) ∧
  R1 c16_5 2 3 12 (.call ⟨.value (.func 14), #[t10, t11], #[3, 25]⟩) ∧
  R1 c16_5 3 4 13 (.binOp .neq 3 t12 (.const (.int .i64 0)) 3) ∧
  R1 c16_5 4 5 14 (.move t13) ∧
  RG c16_5 5 6 (some 15) (.fieldAddr 25 t4 2) 14 false ∧
  RG c16_5 6 7 (some 16) (.load 23 t15) 14 false ∧
  RG c16_5 7 8 (some 17) (.call ⟨.builtin .len, #[t16], #[23]⟩) 14 false ∧
  RG c16_5 8 9 (some 18) (.binOp .gtr 3 t17 (.const (.int .i64 0)) 3) 14 false ∧
  R1 c16_5 9 10 19 (.pick t14 (.const (.bool true)) t18) ∧
  R1 c16_5 10 11 20 (.move t19) ∧
  RG c16_5 11 12 (some 21) (.move t0) 20 false ∧
  RG c16_5 12 13 (some 22) (.fieldAddr 25 t4 0) 20 false ∧
  RG c16_5 13 14 (some 23) (.load 22 t22) 20 false ∧
  RG c16_5 14 15 (some 24) (.call ⟨.value (.func 17), #[t21, t23], #[3, 22]⟩) 20 false ∧
  RG c16_5 15 16 (some 25) (.unOp .not 4 t24) 20 false ∧
  R1 c16_5 16 17 26 (.pick t20 (.const (.bool true)) t25) ∧
  RE c16_5 17 ∧
  Reg C c16_8 ∧
  R1 c16_8 0 1 27 (.fieldAddr 25 t4 2) ∧
  R1 c16_8 1 2 28 (.load 23 t27) ∧
  R1 c16_8 2 3 6 (.assign t28) ∧
  RE c16_8 3 ∧
  Seq C c16_7 c16_8 .ret ∧
  Cond C c16_6 t26 c16_7 .skip ∧
  Seq C c16_4 c16_5 c16_6 ∧
  Reg C c16_11 ∧
  R1 c16_11 0 1 29 (.move t2) ∧
  R1 c16_11 1 2 30 (.binOp .lss 3 t29 (.const (.int .i64 0)) 3) ∧
  R1 c16_11 2 3 31 (.move t30) ∧
  RG c16_11 3 4 (some 32) (.move t2) 31 false ∧
  RG c16_11 4 5 (some 33) (.binOp .gtr 3 t32 (.const (.int .i64 4)) 3) 31 false ∧
  R1 c16_11 5 6 34 (.pick t31 (.const (.bool true)) t33) ∧
  RE c16_11 6 ∧
  Reg C c16_13 ∧
  R1 c16_13 0 1 2 (.assign (.const (.int .i64 0))) ∧
  RE c16_13 1 ∧
  Cond C c16_12 t34 c16_13 .skip ∧
  Seq C c16_10 c16_11 c16_12 ∧
  Reg C c16_15 ∧
  R1 c16_15 0 1 7 (.assign (.const (.slice none 0 0))) ∧
  RE c16_15 1 ∧
  Reg C c16_18 ∧
  R1 c16_18 0 1 35 (.fieldAddr 25 t4 0) ∧
  R1 c16_18 1 2 36 (.load 22 t35) ∧
  RE c16_18 2 ∧
  Reg C c16_21 ∧
  R1 c16_21 0 1 38 (.binOp .eql 22 t36 (.const (.int .i64 6)) 22) ∧
  R1 c16_21 1 2 37 (.assign t38) ∧
  RE c16_21 2 ∧
  Reg C c16_24 ∧
  R1 c16_24 0 1 39 (.buildSlice 23 1 #[(0, .const (.int .i64 2))]) ∧
  R1 c16_24 1 2 6 (.assign t39) ∧
  RE c16_24 2 ∧
  Seq C c16_23 c16_24 .ret ∧
  Reg C c16_26 ∧
  R1 c16_26 0 1 41 (.binOp .eql 22 t36 (.const (.int .i64 17)) 22) ∧
  R1 c16_26 1 2 40 (.assign t41) ∧
  RE c16_26 2 ∧
  Reg C c16_29 ∧
  R1 c16_29 0 1 42 (.buildSlice 23 1 #[(0, .const (.int .i64 0))]) ∧
  R1 c16_29 1 2 6 (.assign t42) ∧
  RE c16_29 2 ∧
  Seq C c16_28 c16_29 .ret ∧
  Reg C c16_31 ∧
  R1 c16_31 0 1 44 (.binOp .eql 22 t36 (.const (.int .i64 11)) 22) ∧
  R1 c16_31 1 2 43 (.assign t44) ∧
  RE c16_31 2 ∧
  Reg C c16_35 ∧
  R1 c16_35 0 1 45 (.move t2) ∧
  R1 c16_35 1 2 46 (.binOp .sub 3 t45 (.const (.int .i64 1)) 3) ∧
  R1 c16_35 2 3 8 (.assign t46) ∧
  RE c16_35 3 ∧
  Reg C c16_40 ∧
  R1 c16_40 0 1 47 (.move t8) ∧
  R1 c16_40 1 2 48 (.binOp .geq 3 t47 (.const (.int .i64 0)) 3) ∧
  RE c16_40 2 ∧
  Cond C c16_41 t48 .skip (.exit 1) ∧
  Seq C c16_39 c16_40 c16_41 ∧
  Reg C c16_44 ∧
  R1 c16_44 0 1 51 (.move t7) ∧
  R1 c16_44 1 2 52 (.move t8) ∧
  R1 c16_44 2 3 53 (.buildSlice 23 1 #[(0, t52)]) ∧
  R1 c16_44 3 4 54 (.call ⟨.builtin .append, #[t51, t53], #[23, 23]⟩) ∧
  R1 c16_44 4 5 7 (.assign t54) ∧
  RE c16_44 5 ∧
  Blk C c16_43 2 c16_44 ∧
  Reg C c16_45 ∧
  R1 c16_45 0 1 49 (.move t8) ∧
  R1 c16_45 1 2 50 (.binOp .sub 3 t49 (.const (.int .i64 1)) 3) ∧
  R1 c16_45 2 3 8 (.assign t50) ∧
  RE c16_45 3 ∧
  Seq C c16_42 c16_43 c16_45 ∧
  Seq C c16_38 c16_39 c16_42 ∧
  Lp C c16_37 c16_38 ∧
  Blk C c16_36 1 c16_37 ∧
  Seq C c16_34 c16_35 c16_36 ∧
  Reg C c16_47 ∧
  R1 c16_47 0 1 55 (.move t7) ∧
  R1 c16_47 1 2 6 (.assign t55) ∧
  RE c16_47 2 ∧
  Seq C c16_46 c16_47 .ret ∧
  Seq C c16_33 c16_34 c16_46 ∧
  Cond C c16_32 t43 c16_33 .skip ∧
  Seq C c16_30 c16_31 c16_32 ∧
  Cond C c16_27 t40 c16_28 c16_30 ∧
  Seq C c16_25 c16_26 c16_27 ∧
  Cond C c16_22 t37 c16_23 c16_25 ∧
  Seq C c16_20 c16_21 c16_22 ∧
  Blk C c16_19 0 c16_20 ∧
  Seq C c16_17 c16_18 c16_19 ∧
  Reg C c16_50 ∧
  R1 c16_50 0 1 9 (.assign (.const (.int .i64 0))) ∧
  RE c16_50 1 ∧
  Reg C c16_55 ∧
  R1 c16_55 0 1 56 (.move t9) ∧
  R1 c16_55 1 2 57 (.move t2) ∧
  R1 c16_55 2 3 58 (.binOp .lss 3 t56 t57 3) ∧
  RE c16_55 3 ∧
  Cond C c16_56 t58 .skip (.exit 3) ∧
  Seq C c16_54 c16_55 c16_56 ∧
  Reg C c16_59 ∧
  R1 c16_59 0 1 61 (.move t7) ∧
  R1 c16_59 1 2 62 (.move t9) ∧
  R1 c16_59 2 3 63 (.buildSlice 23 1 #[(0, t62)]) ∧
  R1 c16_59 3 4 64 (.call ⟨.builtin .append, #[t61, t63], #[23, 23]⟩) ∧
  R1 c16_59 4 5 7 (.assign t64) ∧
  RE c16_59 5 ∧
  Blk C c16_58 4 c16_59 ∧
  Reg C c16_60 ∧
  R1 c16_60 0 1 59 (.move t9) ∧
  R1 c16_60 1 2 60 (.binOp .add 3 t59 (.const (.int .i64 1)) 3) ∧
  R1 c16_60 2 3 9 (.assign t60) ∧
  RE c16_60 3 ∧
  Seq C c16_57 c16_58 c16_60 ∧
  Seq C c16_53 c16_54 c16_57 ∧
  Lp C c16_52 c16_53 ∧
  Blk C c16_51 3 c16_52 ∧
  Seq C c16_49 c16_50 c16_51 ∧
  Reg C c16_62 ∧
  R1 c16_62 0 1 65 (.move t7) ∧
  R1 c16_62 1 2 6 (.assign t65) ∧
  RE c16_62 2 ∧
  Seq C c16_61 c16_62 .ret ∧
  Seq C c16_48 c16_49 c16_61 ∧
  Seq C c16_16 c16_17 c16_48 ∧
  Seq C c16_14 c16_15 c16_16 ∧
  Seq C c16_9 c16_10 c16_14 ∧
  Seq C c16_3 c16_4 c16_9 ∧
  Seq C c16_1 c16_2 c16_3 :=
  ⟨reg_mk rfl, row1 rfl, row1 rfl, rowE rfl, reg_mk rfl, row1 rfl, row1 rfl, row1 rfl, row1 rfl, row1 rfl, rowG rfl rfl, rowG rfl rfl, rowG rfl rfl, rowG rfl rfl, row1 rfl, row1 rfl, rowG rfl rfl, rowG rfl rfl, rowG rfl rfl, rowG rfl rfl, rowG rfl rfl, row1 rfl, rowE rfl, reg_mk rfl, row1 rfl, row1 rfl, row1 rfl, rowE rfl, seq_mk rfl, cond_mk rfl, seq_mk rfl, reg_mk rfl, row1 rfl, row1 rfl, row1 rfl, rowG rfl rfl, rowG rfl rfl, row1 rfl, rowE rfl, reg_mk rfl, row1 rfl, rowE rfl, cond_mk rfl, seq_mk rfl, reg_mk rfl, row1 rfl, rowE rfl, reg_mk rfl, row1 rfl, row1 rfl, rowE rfl, reg_mk rfl, row1 rfl, row1 rfl, rowE rfl, reg_mk rfl, row1 rfl, row1 rfl, rowE rfl, seq_mk rfl, reg_mk rfl, row1 rfl, row1 rfl, rowE rfl, reg_mk rfl, row1 rfl, row1 rfl, rowE rfl, seq_mk rfl, reg_mk rfl, row1 rfl, row1 rfl, rowE rfl, reg_mk rfl, row1 rfl, row1 rfl, row1 rfl, rowE rfl, reg_mk rfl, row1 rfl, row1 rfl, rowE rfl, cond_mk rfl, seq_mk rfl, reg_mk rfl, row1 rfl, row1 rfl, row1 rfl, row1 rfl, row1 rfl, rowE rfl, blk_mk rfl, reg_mk rfl, row1 rfl, row1 rfl, row1 rfl, rowE rfl, seq_mk rfl, seq_mk rfl, lp_mk rfl, blk_mk rfl, seq_mk rfl, reg_mk rfl, row1 rfl, row1 rfl, rowE rfl, seq_mk rfl, seq_mk rfl, cond_mk rfl, seq_mk rfl, cond_mk rfl, seq_mk rfl, cond_mk rfl, seq_mk rfl, blk_mk rfl, seq_mk rfl, reg_mk rfl, row1 rfl, rowE rfl, reg_mk rfl, row1 rfl, row1 rfl, row1 rfl, rowE rfl, cond_mk rfl, seq_mk rfl, reg_mk rfl, row1 rfl, row1 rfl, row1 rfl, row1 rfl, row1 rfl, rowE rfl, blk_mk rfl, reg_mk rfl, row1 rfl, row1 rfl, row1 rfl, rowE rfl, seq_mk rfl, seq_mk rfl, lp_mk rfl, blk_mk rfl, seq_mk rfl, reg_mk rfl, row1 rfl, row1 rfl, rowE rfl, seq_mk rfl, seq_mk rfl, seq_mk rfl, seq_mk rfl, seq_mk rfl, seq_mk rfl, seq_mk rfl⟩
theorem body16 : Try.f16.body = some c16_1 := rfl
/-! fluxion/fluxionref12.matrix -/
noncomputable def c49_1 : Code := (Try.f49.body).getD .skip
noncomputable def c49_2 : Code := kid c49_1 0
noncomputable def c49_3 : Code := kid c49_1 1
noncomputable def c49_4 : Code := kid c49_3 0
noncomputable def c49_5 : Code := kid c49_4 0
noncomputable def c49_6 : Code := kid c49_4 1
noncomputable def c49_7 : Code := kid c49_6 0
noncomputable def c49_8 : Code := kid c49_7 0
noncomputable def c49_9 : Code := kid c49_3 1
noncomputable def c49_10 : Code := kid c49_9 0
noncomputable def c49_11 : Code := kid c49_10 0
noncomputable def c49_12 : Code := kid c49_10 1
noncomputable def c49_13 : Code := kid c49_12 0
noncomputable def c49_14 : Code := kid c49_13 0
noncomputable def c49_15 : Code := kid c49_9 1
noncomputable def c49_16 : Code := kid c49_15 0
@[go_sem] theorem w49 : Reg C c49_2 ∧
  R1 c49_2 0 1 4 (.assign (.const (.slice none 0 0))) ∧
  R1 c49_2 1 2 5 (.assign (.const (.int .i64 0))) ∧
  RE c49_2 2 ∧
  Reg C c49_5 ∧
  R1 c49_5 0 1 6 (.move t0) ∧
  R1 c49_5 1 2 7 (.call ⟨.builtin .len, #[t6], #[23]⟩) ∧
  R1 c49_5 2 3 8 (.binOp .neq 3 t7 (.const (.int .i64 2)) 3) ∧
  R1 c49_5 3 4 9 (.move t8) ∧
  RG c49_5 4 5 (some 10) (.move t1) 9 false ∧
  RG c49_5 5 6 (some 11) (.call ⟨.builtin .len, #[t10], #[23]⟩) 9 false ∧
  RG c49_5 6 7 (some 12) (.binOp .neq 3 t11 (.const (.int .i64 2)) 3) 9 false ∧
  R1 c49_5 7 8 13 (.pick t9 (.const (.bool true)) t12) ∧
  RE c49_5 8 ∧
  Reg C c49_8 ∧
  R1 c49_8 0 1 4 (.assign (.const (.slice none 0 0))) ∧
  R1 c49_8 1 2 5 (.assign (.const (.int .i64 13))) ∧
  RE c49_8 2 ∧
  Seq C c49_7 c49_8 .ret ∧
  Cond C c49_6 t13 c49_7 .skip ∧
  Seq C c49_4 c49_5 c49_6 ∧
  Draw C c49_11 ∧
  D1 c49_11 0 1 14 (.move t0) ∧
  D1 c49_11 1 2 15 (.indexAddr 23 t14 (.const (.int .i64 1))) ∧
  D1 c49_11 2 3 16 (.load 3 t15) ∧
  D1 c49_11 3 4 17 (.move t1) ∧
  D1 c49_11 4 5 18 (.indexAddr 23 t17 (.const (.int .i64 0))) ∧
  D1 c49_11 5 6 19 (.load 3 t18) ∧
  D1 c49_11 6 7 20 (.binOp .neq 3 t16 t19 3) ∧
  DE c49_11 7 ∧
  Reg C c49_14 ∧
  R1 c49_14 0 1 4 (.assign (.const (.slice none 0 0))) ∧
  R1 c49_14 1 2 5 (.assign (.const (.int .i64 13))) ∧
  RE c49_14 2 ∧
  Seq C c49_13 c49_14 .ret ∧
  Cond C c49_12 t20 c49_13 .skip ∧
  Seq C c49_10 c49_11 c49_12 ∧
  Draw C c49_16 ∧
  D1 c49_16 0 1 21 (.move t0) ∧
  D1 c49_16 1 2 22 (.indexAddr 23 t21 (.const (.int .i64 0))) ∧
  D1 c49_16 2 3 23 (.load 3 t22) ∧
  D1 c49_16 3 4 24 (.move t1) ∧
  D1 c49_16 4 5 25 (.indexAddr 23 t24 (.const (.int .i64 1))) ∧
  D1 c49_16 5 6 26 (.load 3 t25) ∧
  D1 c49_16 6 7 27 (.buildSlice 23 2 #[(0, t23), (1, t26)]) ∧
  D1 c49_16 7 8 4 (.assign t27) ∧
  D1 c49_16 8 9 5 (.assign (.const (.int .i64 0))) ∧
  DE c49_16 9 ∧
  Seq C c49_15 c49_16 .ret ∧
  Seq C c49_9 c49_10 c49_15 ∧
  Seq C c49_3 c49_4 c49_9 ∧
  Seq C c49_1 c49_2 c49_3 :=
  ⟨reg_mk rfl, row1 rfl, row1 rfl, rowE rfl, reg_mk rfl, row1 rfl, row1 rfl, row1 rfl, row1 rfl, rowG rfl rfl, rowG rfl rfl, rowG rfl rfl, row1 rfl, rowE rfl, reg_mk rfl, row1 rfl, row1 rfl, rowE rfl, seq_mk rfl, cond_mk rfl, seq_mk rfl, draw_mk rfl, dow1 rfl, dow1 rfl, dow1 rfl, dow1 rfl, dow1 rfl, dow1 rfl, dow1 rfl, dowE rfl, reg_mk rfl, row1 rfl, row1 rfl, rowE rfl, seq_mk rfl, cond_mk rfl, seq_mk rfl, draw_mk rfl, dow1 rfl, dow1 rfl, dow1 rfl, dow1 rfl, dow1 rfl, dow1 rfl, dow1 rfl, dow1 rfl, dow1 rfl, dowE rfl, seq_mk rfl, seq_mk rfl, seq_mk rfl, seq_mk rfl⟩
theorem body49 : Try.f49.body = some c49_1 := rfl
/-! fluxion/fluxionref12.pad -/
noncomputable def c53_1 : Code := (Try.f53.body).getD .skip
noncomputable def c53_2 : Code := kid c53_1 0
noncomputable def c53_3 : Code := kid c53_1 1
noncomputable def c53_4 : Code := kid c53_3 0
noncomputable def c53_5 : Code := kid c53_4 0
noncomputable def c53_6 : Code := kid c53_4 1
noncomputable def c53_7 : Code := kid c53_6 0
noncomputable def c53_8 : Code := kid c53_7 0
noncomputable def c53_9 : Code := kid c53_3 1
noncomputable def c53_10 : Code := kid c53_9 0
noncomputable def c53_11 : Code := kid c53_9 1
noncomputable def c53_12 : Code := kid c53_11 0
noncomputable def c53_13 : Code := kid c53_12 0
noncomputable def c53_14 : Code := kid c53_12 1
noncomputable def c53_15 : Code := kid c53_14 0
noncomputable def c53_16 : Code := kid c53_15 0
noncomputable def c53_17 : Code := kid c53_16 0
noncomputable def c53_18 : Code := kid c53_17 0
noncomputable def c53_19 : Code := kid c53_17 1
noncomputable def c53_20 : Code := kid c53_16 1
noncomputable def c53_21 : Code := kid c53_20 0
noncomputable def c53_22 : Code := kid c53_21 0
noncomputable def c53_23 : Code := kid c53_20 1
noncomputable def c53_24 : Code := kid c53_11 1
noncomputable def c53_25 : Code := kid c53_24 0
@[go_sem] theorem w53 : Reg C c53_2 ∧
  R1 c53_2 0 1 4 (.assign (.const (.slice none 0 0))) ∧
  R1 c53_2 1 2 5 (.assign (.const (.int .i64 0))) ∧
  RE c53_2 2 ∧
  Reg C c53_5 ∧
  R1 c53_5 0 1 8 (.move t1) ∧
  R1 c53_5 1 2 9 (.call ⟨.builtin .len, #[t8], #[23]⟩) ∧
  R1 c53_5 2 3 10 (.move t0) ∧
  R1 c53_5 3 4 11 (.call ⟨.builtin .len, #[t10], #[23]⟩) ∧
  R1 c53_5 4 5 12 (.binOp .mul 3 (.const (.int .i64 2)) t11 3) ∧
  R1 c53_5 5 6 13 (.binOp .neq 3 t9 t12 3) ∧
  RE c53_5 6 ∧
  Reg C c53_8 ∧
  R1 c53_8 0 1 4 (.assign (.const (.slice none 0 0))) ∧
  R1 c53_8 1 2 5 (.assign (.const (.int .i64 13))) ∧
  RE c53_8 2 ∧
  Seq C c53_7 c53_8 .ret ∧
  Cond C c53_6 t13 c53_7 .skip ∧
  Seq C c53_4 c53_5 c53_6 ∧
  Reg C c53_10 ∧
  R1 c53_10 0 1 6 (.assign (.const (.slice none 0 0))) ∧
  RE c53_10 1 ∧
  Reg C c53_13 ∧
  R1 c53_13 0 1 7 (.assign (.const (.int .i64 0))) ∧
  RE c53_13 1 ∧
  Reg C c53_18 ∧
  R1 c53_18 0 1 14 (.move t7) ∧
  R1 c53_18 1 2 15 (.move t0) ∧
  R1 c53_18 2 3 16 (.call ⟨.builtin .len, #[t15], #[23]⟩) ∧
  R1 c53_18 3 4 17 (.binOp .lss 3 t14 t16 3) ∧
  RE c53_18 4 ∧
  Cond C c53_19 t17 .skip (.exit 0) ∧
  Seq C c53_17 c53_18 c53_19 ∧
  Draw C c53_22 ∧
  D1 c53_22 0 1 20 (.move t6) ∧
  D1 c53_22 1 2 21 (.move t1) ∧
  D1 c53_22 2 3 22 (.move t7) ∧
  D1 c53_22 3 4 23 (.binOp .mul 3 (.const (.int .i64 2)) t22 3) ∧
  D1 c53_22 4 5 24 (.indexAddr 23 t21 t23) ∧
  D1 c53_22 5 6 25 (.load 3 t24) ∧
  D1 c53_22 6 7 26 (.move t0) ∧
  D1 c53_22 7 8 27 (.move t7) ∧
  D1 c53_22 8 9 28 (.indexAddr 23 t26 t27) ∧
  D1 c53_22 9 10 29 (.load 3 t28) ∧
  D1 c53_22 10 11 30 (.binOp .add 3 t25 t29 3) ∧
  D1 c53_22 11 12 31 (.move t1) ∧
  D1 c53_22 12 13 32 (.move t7) ∧
  D1 c53_22 13 14 33 (.binOp .mul 3 (.const (.int .i64 2)) t32 3) ∧
  D1 c53_22 14 15 34 (.binOp .add 3 t33 (.const (.int .i64 1)) 3) ∧
  D1 c53_22 15 16 35 (.indexAddr 23 t31 t34) ∧
  D1 c53_22 16 17 36 (.load 3 t35) ∧
  D1 c53_22 17 18 37 (.binOp .add 3 t30 t36 3) ∧
  D1 c53_22 18 19 38 (.buildSlice 23 1 #[(0, t37)]) ∧
  D1 c53_22 19 20 39 (.call ⟨.builtin .append, #[t20, t38], #[23, 23]⟩) ∧
  D1 c53_22 20 21 6 (.assign t39) ∧
  DE c53_22 21 ∧
  Blk C c53_21 1 c53_22 ∧
  Reg C c53_23 ∧
  R1 c53_23 0 1 18 (.move t7) ∧
  R1 c53_23 1 2 19 (.binOp .add 3 t18 (.const (.int .i64 1)) 3) ∧
  R1 c53_23 2 3 7 (.assign t19) ∧
  RE c53_23 3 ∧
  Seq C c53_20 c53_21 c53_23 ∧
  Seq C c53_16 c53_17 c53_20 ∧
  Lp C c53_15 c53_16 ∧
  Blk C c53_14 0 c53_15 ∧
  Seq C c53_12 c53_13 c53_14 ∧
  Reg C c53_25 ∧
  R1 c53_25 0 1 40 (.move t6) ∧
  R1 c53_25 1 2 4 (.assign t40) ∧
  R1 c53_25 2 3 5 (.assign (.const (.int .i64 0))) ∧
  RE c53_25 3 ∧
  Seq C c53_24 c53_25 .ret ∧
  Seq C c53_11 c53_12 c53_24 ∧
  Seq C c53_9 c53_10 c53_11 ∧
  Seq C c53_3 c53_4 c53_9 ∧
  Seq C c53_1 c53_2 c53_3 :=
  ⟨reg_mk rfl, row1 rfl, row1 rfl, rowE rfl, reg_mk rfl, row1 rfl, row1 rfl, row1 rfl, row1 rfl, row1 rfl, row1 rfl, rowE rfl, reg_mk rfl, row1 rfl, row1 rfl, rowE rfl, seq_mk rfl, cond_mk rfl, seq_mk rfl, reg_mk rfl, row1 rfl, rowE rfl, reg_mk rfl, row1 rfl, rowE rfl, reg_mk rfl, row1 rfl, row1 rfl, row1 rfl, row1 rfl, rowE rfl, cond_mk rfl, seq_mk rfl, draw_mk rfl, dow1 rfl, dow1 rfl, dow1 rfl, dow1 rfl, dow1 rfl, dow1 rfl, dow1 rfl, dow1 rfl, dow1 rfl, dow1 rfl, dow1 rfl, dow1 rfl, dow1 rfl, dow1 rfl, dow1 rfl, dow1 rfl, dow1 rfl, dow1 rfl, dow1 rfl, dow1 rfl, dow1 rfl, dowE rfl, blk_mk rfl, reg_mk rfl, row1 rfl, row1 rfl, row1 rfl, rowE rfl, seq_mk rfl, seq_mk rfl, lp_mk rfl, blk_mk rfl, seq_mk rfl, reg_mk rfl, row1 rfl, row1 rfl, row1 rfl, rowE rfl, seq_mk rfl, seq_mk rfl, seq_mk rfl, seq_mk rfl, seq_mk rfl⟩
theorem body53 : Try.f53.body = some c53_1 := rfl
/-! fluxion/fluxionref12.slice -/
noncomputable def c52_1 : Code := (Try.f52.body).getD .skip
noncomputable def c52_2 : Code := kid c52_1 0
noncomputable def c52_3 : Code := kid c52_1 1
noncomputable def c52_4 : Code := kid c52_3 0
noncomputable def c52_5 : Code := kid c52_4 0
noncomputable def c52_6 : Code := kid c52_4 1
noncomputable def c52_7 : Code := kid c52_6 0
noncomputable def c52_8 : Code := kid c52_7 0
noncomputable def c52_9 : Code := kid c52_3 1
noncomputable def c52_10 : Code := kid c52_9 0
noncomputable def c52_11 : Code := kid c52_9 1
noncomputable def c52_12 : Code := kid c52_11 0
noncomputable def c52_13 : Code := kid c52_12 0
noncomputable def c52_14 : Code := kid c52_12 1
noncomputable def c52_15 : Code := kid c52_14 0
noncomputable def c52_16 : Code := kid c52_15 0
noncomputable def c52_17 : Code := kid c52_16 0
noncomputable def c52_18 : Code := kid c52_17 0
noncomputable def c52_19 : Code := kid c52_17 1
noncomputable def c52_20 : Code := kid c52_16 1
noncomputable def c52_21 : Code := kid c52_20 0
noncomputable def c52_22 : Code := kid c52_21 0
noncomputable def c52_23 : Code := kid c52_22 0
noncomputable def c52_24 : Code := kid c52_23 0
noncomputable def c52_25 : Code := kid c52_23 1
noncomputable def c52_26 : Code := kid c52_25 0
noncomputable def c52_27 : Code := kid c52_26 0
noncomputable def c52_28 : Code := kid c52_22 1
noncomputable def c52_29 : Code := kid c52_20 1
noncomputable def c52_30 : Code := kid c52_11 1
noncomputable def c52_31 : Code := kid c52_30 0
@[go_sem] theorem w52 : Reg C c52_2 ∧
  R1 c52_2 0 1 4 (.assign (.const (.slice none 0 0))) ∧
  R1 c52_2 1 2 5 (.assign (.const (.int .i64 0))) ∧
  RE c52_2 2 ∧
  Reg C c52_5 ∧
  R1 c52_5 0 1 8 (.move t1) ∧
  R1 c52_5 1 2 9 (.call ⟨.builtin .len, #[t8], #[23]⟩) ∧
  R1 c52_5 2 3 10 (.move t0) ∧
  R1 c52_5 3 4 11 (.call ⟨.builtin .len, #[t10], #[23]⟩) ∧
  R1 c52_5 4 5 12 (.binOp .mul 3 (.const (.int .i64 2)) t11 3) ∧
  R1 c52_5 5 6 13 (.binOp .neq 3 t9 t12 3) ∧
  RE c52_5 6 ∧
  Reg C c52_8 ∧
  R1 c52_8 0 1 4 (.assign (.const (.slice none 0 0))) ∧
  R1 c52_8 1 2 5 (.assign (.const (.int .i64 13))) ∧
  RE c52_8 2 ∧
  Seq C c52_7 c52_8 .ret ∧
  Cond C c52_6 t13 c52_7 .skip ∧
  Seq C c52_4 c52_5 c52_6 ∧
  Reg C c52_10 ∧
  R1 c52_10 0 1 6 (.assign (.const (.slice none 0 0))) ∧
  RE c52_10 1 ∧
  Reg C c52_13 ∧
  R1 c52_13 0 1 7 (.assign (.const (.int .i64 0))) ∧
  RE c52_13 1 ∧
  Reg C c52_18 ∧
  R1 c52_18 0 1 14 (.move t7) ∧
  R1 c52_18 1 2 15 (.move t0) ∧
  R1 c52_18 2 3 16 (.call ⟨.builtin .len, #[t15], #[23]⟩) ∧
  R1 c52_18 3 4 17 (.binOp .lss 3 t14 t16 3) ∧
  RE c52_18 4 ∧
  Cond C c52_19 t17 .skip (.exit 0) ∧
  Seq C c52_17 c52_18 c52_19 ∧
  Draw C c52_24 ∧
  D1 c52_24 0 1 20 (.move t1) ∧
  D1 c52_24 1 2 21 (.move t7) ∧
  D1 c52_24 2 3 22 (.binOp .mul 3 (.const (.int .i64 2)) t21 3) ∧
  D1 c52_24 3 4 23 (.binOp .add 3 t22 (.const (.int .i64 1)) 3) ∧
  D1 c52_24 4 5 24 (.indexAddr 23 t20 t23) ∧
  D1 c52_24 5 6 25 (.load 3 t24) ∧
  D1 c52_24 6 7 26 (.move t0) ∧
  D1 c52_24 7 8 27 (.move t7) ∧
  D1 c52_24 8 9 28 (.indexAddr 23 t26 t27) ∧
  D1 c52_24 9 10 29 (.load 3 t28) ∧
  D1 c52_24 10 11 30 (.binOp .gtr 3 t25 t29 3) ∧
  DE c52_24 11 ∧
  Reg C c52_27 ∧
  R1 c52_27 0 1 4 (.assign (.const (.slice none 0 0))) ∧
  R1 c52_27 1 2 5 (.assign (.const (.int .i64 13))) ∧
  RE c52_27 2 ∧
  Seq C c52_26 c52_27 .ret ∧
  Cond C c52_25 t30 c52_26 .skip ∧
  Seq C c52_23 c52_24 c52_25 ∧
  Draw C c52_28 ∧
  D1 c52_28 0 1 31 (.move t6) ∧
  D1 c52_28 1 2 32 (.move t1) ∧
  D1 c52_28 2 3 33 (.move t7) ∧
  D1 c52_28 3 4 34 (.binOp .mul 3 (.const (.int .i64 2)) t33 3) ∧
  D1 c52_28 4 5 35 (.binOp .add 3 t34 (.const (.int .i64 1)) 3) ∧
  D1 c52_28 5 6 36 (.indexAddr 23 t32 t35) ∧
  D1 c52_28 6 7 37 (.load 3 t36) ∧
  D1 c52_28 7 8 38 (.move t1) ∧
  D1 c52_28 8 9 39 (.move t7) ∧
  D1 c52_28 9 10 40 (.binOp .mul 3 (.const (.int .i64 2)) t39 3) ∧
  D1 c52_28 10 11 41 (.indexAddr 23 t38 t40) ∧
  D1 c52_28 11 12 42 (.load 3 t41) ∧
  D1 c52_28 12 13 43 (.binOp .sub 3 t37 t42 3) ∧
  D1 c52_28 13 14 44 (.buildSlice 23 1 #[(0, t43)]) ∧
  D1 c52_28 14 15 45 (.call ⟨.builtin .append, #[t31, t44], #[23, 23]⟩) ∧
  D1 c52_28 15 16 6 (.assign t45) ∧
  DE c52_28 16 ∧
  Seq C c52_22 c52_23 c52_28 ∧
  Blk C c52_21 1 c52_22 ∧
  Reg C c52_29 ∧
  R1 c52_29 0 1 18 (.move t7) ∧
  R1 c52_29 1 2 19 (.binOp .add 3 t18 (.const (.int .i64 1)) 3) ∧
  R1 c52_29 2 3 7 (.assign t19) ∧
  RE c52_29 3 ∧
  Seq C c52_20 c52_21 c52_29 ∧
  Seq C c52_16 c52_17 c52_20 ∧
  Lp C c52_15 c52_16 ∧
  Blk C c52_14 0 c52_15 ∧
  Seq C c52_12 c52_13 c52_14 ∧
  Reg C c52_31 ∧
  R1 c52_31 0 1 46 (.move t6) ∧
  R1 c52_31 1 2 4 (.assign t46) ∧
  R1 c52_31 2 3 5 (.assign (.const (.int .i64 0))) ∧
  RE c52_31 3 ∧
  Seq C c52_30 c52_31 .ret ∧
  Seq C c52_11 c52_12 c52_30 ∧
  Seq C c52_9 c52_10 c52_11 ∧
  Seq C c52_3 c52_4 c52_9 ∧
  Seq C c52_1 c52_2 c52_3 :=
  ⟨reg_mk rfl, row1 rfl, row1 rfl, rowE rfl, reg_mk rfl, row1 rfl, row1 rfl, row1 rfl, row1 rfl, row1 rfl, row1 rfl, rowE rfl, reg_mk rfl, row1 rfl, row1 rfl, rowE rfl, seq_mk rfl, cond_mk rfl, seq_mk rfl, reg_mk rfl, row1 rfl, rowE rfl, reg_mk rfl, row1 rfl, rowE rfl, reg_mk rfl, row1 rfl, row1 rfl, row1 rfl, row1 rfl, rowE rfl, cond_mk rfl, seq_mk rfl, draw_mk rfl, dow1 rfl, dow1 rfl, dow1 rfl, dow1 rfl, dow1 rfl, dow1 rfl, dow1 rfl, dow1 rfl, dow1 rfl, dow1 rfl, dow1 rfl, dowE rfl, reg_mk rfl, row1 rfl, row1 rfl, rowE rfl, seq_mk rfl, cond_mk rfl, seq_mk rfl, draw_mk rfl, dow1 rfl, dow1 rfl, dow1 rfl, dow1 rfl, dow1 rfl, dow1 rfl, dow1 rfl, dow1 rfl, dow1 rfl, dow1 rfl, dow1 rfl, dow1 rfl, dow1 rfl, dow1 rfl, dow1 rfl, dow1 rfl, dowE rfl, seq_mk rfl, blk_mk rfl, reg_mk rfl, row1 rfl, row1 rfl, row1 rfl, rowE rfl, seq_mk rfl, seq_mk rfl, lp_mk rfl, blk_mk rfl, seq_mk rfl, reg_mk rfl, row1 rfl, row1 rfl, row1 rfl, rowE rfl, seq_mk rfl, seq_mk rfl, seq_mk rfl, seq_mk rfl, seq_mk rfl⟩
theorem body52 : Try.f52.body = some c52_1 := rfl
/-! fluxion/fluxionref12.concat -/
noncomputable def c54_1 : Code := (Try.f54.body).getD .skip
noncomputable def c54_2 : Code := kid c54_1 0
noncomputable def c54_3 : Code := kid c54_1 1
noncomputable def c54_4 : Code := kid c54_3 0
noncomputable def c54_5 : Code := kid c54_3 1
noncomputable def c54_6 : Code := kid c54_5 0
noncomputable def c54_7 : Code := kid c54_6 0
noncomputable def c54_8 : Code := kid c54_6 1
noncomputable def c54_9 : Code := kid c54_8 0
noncomputable def c54_10 : Code := kid c54_9 0
noncomputable def c54_11 : Code := kid c54_5 1
noncomputable def c54_12 : Code := kid c54_11 0
noncomputable def c54_13 : Code := kid c54_11 1
noncomputable def c54_14 : Code := kid c54_13 0
noncomputable def c54_15 : Code := kid c54_14 0
noncomputable def c54_16 : Code := kid c54_14 1
noncomputable def c54_17 : Code := kid c54_16 0
noncomputable def c54_18 : Code := kid c54_17 0
noncomputable def c54_19 : Code := kid c54_18 0
noncomputable def c54_20 : Code := kid c54_19 0
noncomputable def c54_21 : Code := kid c54_19 1
noncomputable def c54_22 : Code := kid c54_18 1
noncomputable def c54_23 : Code := kid c54_22 0
noncomputable def c54_24 : Code := kid c54_23 0
noncomputable def c54_25 : Code := kid c54_24 0
noncomputable def c54_26 : Code := kid c54_25 0
noncomputable def c54_27 : Code := kid c54_25 1
noncomputable def c54_28 : Code := kid c54_27 0
noncomputable def c54_29 : Code := kid c54_28 0
noncomputable def c54_30 : Code := kid c54_24 1
noncomputable def c54_31 : Code := kid c54_30 0
noncomputable def c54_32 : Code := kid c54_31 0
noncomputable def c54_33 : Code := kid c54_31 1
noncomputable def c54_34 : Code := kid c54_33 0
noncomputable def c54_35 : Code := kid c54_34 0
noncomputable def c54_36 : Code := kid c54_35 0
noncomputable def c54_37 : Code := kid c54_36 0
noncomputable def c54_38 : Code := kid c54_36 1
noncomputable def c54_39 : Code := kid c54_35 1
noncomputable def c54_40 : Code := kid c54_39 0
noncomputable def c54_41 : Code := kid c54_40 0
noncomputable def c54_42 : Code := kid c54_41 0
noncomputable def c54_43 : Code := kid c54_41 1
noncomputable def c54_44 : Code := kid c54_43 0
noncomputable def c54_45 : Code := kid c54_44 0
noncomputable def c54_46 : Code := kid c54_39 1
noncomputable def c54_47 : Code := kid c54_30 1
noncomputable def c54_48 : Code := kid c54_22 1
noncomputable def c54_49 : Code := kid c54_13 1
noncomputable def c54_50 : Code := kid c54_49 0
@[go_sem] theorem w54 : Reg C c54_2 ∧
  R1 c54_2 0 1 4 (.assign (.const (.slice none 0 0))) ∧
  R1 c54_2 1 2 5 (.assign (.const (.int .i64 0))) ∧
  RE c54_2 2 ∧
  Reg C c54_4 ∧
  R1 c54_4 0 1 10 (.move t1) ∧
  R1 c54_4 1 2 11 (.indexAddr 34 t10 (.const (.int .i64 0))) ∧
  R1 c54_4 2 3 12 (.load 23 t11) ∧
  R1 c54_4 3 4 6 (.assign t12) ∧
  RE c54_4 4 ∧
  Reg C c54_7 ∧
  R1 c54_7 0 1 13 (.move t0) ∧
  R1 c54_7 1 2 14 (.move t6) ∧
  R1 c54_7 2 3 15 (.call ⟨.builtin .len, #[t14], #[23]⟩) ∧
  R1 c54_7 3 4 16 (.binOp .geq 3 t13 t15 3) ∧
  RE c54_7 4 ∧
  Reg C c54_10 ∧
  R1 c54_10 0 1 4 (.assign (.const (.slice none 0 0))) ∧
  R1 c54_10 1 2 5 (.assign (.const (.int .i64 13))) ∧
  RE c54_10 2 ∧
  Seq C c54_9 c54_10 .ret ∧
  Cond C c54_8 t16 c54_9 .skip ∧
  Seq C c54_6 c54_7 c54_8 ∧
  Reg C c54_12 ∧
  R1 c54_12 0 1 17 (.move t6) ∧
  R1 c54_12 1 2 18 (.call ⟨.builtin .append, #[.const (.slice none 0 0), t17], #[23, 23]⟩) ∧
  R1 c54_12 2 3 7 (.assign t18) ∧
  RE c54_12 3 ∧
  Reg C c54_15 ∧
  R1 c54_15 0 1 8 (.assign (.const (.int .i64 1))) ∧
  RE c54_15 1 ∧
  Reg C c54_20 ∧
  R1 c54_20 0 1 19 (.move t8) ∧
  R1 c54_20 1 2 20 (.move t1) ∧
  R1 c54_20 2 3 21 (.call ⟨.builtin .len, #[t20], #[34]⟩) ∧
  R1 c54_20 3 4 22 (.binOp .lss 3 t19 t21 3) ∧
  RE c54_20 4 ∧
  Cond C c54_21 t22 .skip (.exit 0) ∧
  Seq C c54_19 c54_20 c54_21 ∧
  Reg C c54_26 ∧
  R1 c54_26 0 1 25 (.move t1) ∧
  R1 c54_26 1 2 26 (.move t8) ∧
  R1 c54_26 2 3 27 (.indexAddr 34 t25 t26) ∧
  R1 c54_26 3 4 28 (.load 23 t27) ∧
  R1 c54_26 4 5 29 (.call ⟨.builtin .len, #[t28], #[23]⟩) ∧
  R1 c54_26 5 6 30 (.move t6) ∧
  R1 c54_26 6 7 31 (.call ⟨.builtin .len, #[t30], #[23]⟩) ∧
  R1 c54_26 7 8 32 (.binOp .neq 3 t29 t31 3) ∧
  RE c54_26 8 ∧
  Reg C c54_29 ∧
  R1 c54_29 0 1 4 (.assign (.const (.slice none 0 0))) ∧
  R1 c54_29 1 2 5 (.assign (.const (.int .i64 13))) ∧
  RE c54_29 2 ∧
  Seq C c54_28 c54_29 .ret ∧
  Cond C c54_27 t32 c54_28 .skip ∧
  Seq C c54_25 c54_26 c54_27 ∧
  Reg C c54_32 ∧
  R1 c54_32 0 1 9 (.assign (.const (.int .i64 0))) ∧
  RE c54_32 1 ∧
  Reg C c54_37 ∧
  R1 c54_37 0 1 33 (.move t9) ∧
  R1 c54_37 1 2 34 (.move t6) ∧
  R1 c54_37 2 3 35 (.call ⟨.builtin .len, #[t34], #[23]⟩) ∧
  R1 c54_37 3 4 36 (.binOp .lss 3 t33 t35 3) ∧
  RE c54_37 4 ∧
  Cond C c54_38 t36 .skip (.exit 2) ∧
  Seq C c54_36 c54_37 c54_38 ∧
  Draw C c54_42 ∧
  D1 c54_42 0 1 39 (.move t9) ∧
  D1 c54_42 1 2 40 (.move t0) ∧
  D1 c54_42 2 3 41 (.binOp .neq 3 t39 t40 3) ∧
  D1 c54_42 3 4 42 (.move t41) ∧
  DG c54_42 4 5 (some 43) (.move t1) 42 true ∧
  DG c54_42 5 6 (some 44) (.move t8) 42 true ∧
  DG c54_42 6 7 (some 45) (.indexAddr 34 t43 t44) 42 true ∧
  DG c54_42 7 8 (some 46) (.load 23 t45) 42 true ∧
  DG c54_42 8 9 (some 47) (.move t9) 42 true ∧
  DG c54_42 9 10 (some 48) (.indexAddr 23 t46 t47) 42 true ∧
  DG c54_42 10 11 (some 49) (.load 3 t48) 42 true ∧
  DG c54_42 11 12 (some 50) (.move t6) 42 true ∧
  DG c54_42 12 13 (some 51) (.move t9) 42 true ∧
  DG c54_42 13 14 (some 52) (.indexAddr 23 t50 t51) 42 true ∧
  DG c54_42 14 15 (some 53) (.load 3 t52) 42 true ∧
  DG c54_42 15 16 (some 54) (.binOp .neq 3 t49 t53 3) 42 true ∧
  D1 c54_42 16 17 55 (.pick t42 t54 (.const (.bool false))) ∧
  DE c54_42 17 ∧
  Reg C c54_45 ∧
  R1 c54_45 0 1 4 (.assign (.const (.slice none 0 0))) ∧
  R1 c54_45 1 2 5 (.assign (.const (.int .i64 13))) ∧
  RE c54_45 2 ∧
  Seq C c54_44 c54_45 .ret ∧
  Cond C c54_43 t55 c54_44 .skip ∧
  Seq C c54_41 c54_42 c54_43 ∧
  Blk C c54_40 3 c54_41 ∧
  Reg C c54_46 ∧
  R1 c54_46 0 1 37 (.move t9) ∧
  R1 c54_46 1 2 38 (.binOp .add 3 t37 (.const (.int .i64 1)) 3) ∧
  R1 c54_46 2 3 9 (.assign t38) ∧
  RE c54_46 3 ∧
  Seq C c54_39 c54_40 c54_46 ∧
  Seq C c54_35 c54_36 c54_39 ∧
  Lp C c54_34 c54_35 ∧
  Blk C c54_33 2 c54_34 ∧
  Seq C c54_31 c54_32 c54_33 ∧
  Draw C c54_47 ∧
  D1 c54_47 0 1 56 (.move t7) ∧
  D1 c54_47 1 2 57 (.move t0) ∧
  D1 c54_47 2 3 58 (.move t7) ∧
  D1 c54_47 3 4 59 (.move t0) ∧
  D1 c54_47 4 5 60 (.indexAddr 23 t58 t59) ∧
  D1 c54_47 5 6 61 (.load 3 t60) ∧
  D1 c54_47 6 7 62 (.move t1) ∧
  D1 c54_47 7 8 63 (.move t8) ∧
  D1 c54_47 8 9 64 (.indexAddr 34 t62 t63) ∧
  D1 c54_47 9 10 65 (.load 23 t64) ∧
  D1 c54_47 10 11 66 (.move t0) ∧
  D1 c54_47 11 12 67 (.indexAddr 23 t65 t66) ∧
  D1 c54_47 12 13 68 (.load 3 t67) ∧
  D1 c54_47 13 14 69 (.binOp .add 3 t61 t68 3) ∧
  D1 c54_47 14 15 70 (.indexAddr 23 t56 t57) ∧
  D0 c54_47 15 16 (.store 3 t70 t69) ∧
  DE c54_47 16 ∧
  Seq C c54_30 c54_31 c54_47 ∧
  Seq C c54_24 c54_25 c54_30 ∧
  Blk C c54_23 1 c54_24 ∧
  Reg C c54_48 ∧
  R1 c54_48 0 1 23 (.move t8) ∧
  R1 c54_48 1 2 24 (.binOp .add 3 t23 (.const (.int .i64 1)) 3) ∧
  R1 c54_48 2 3 8 (.assign t24) ∧
  RE c54_48 3 ∧
  Seq C c54_22 c54_23 c54_48 ∧
  Seq C c54_18 c54_19 c54_22 ∧
  Lp C c54_17 c54_18 ∧
  Blk C c54_16 0 c54_17 ∧
  Seq C c54_14 c54_15 c54_16 ∧
  Reg C c54_50 ∧
  R1 c54_50 0 1 71 (.move t7) ∧
  R1 c54_50 1 2 4 (.assign t71) ∧
  R1 c54_50 2 3 5 (.assign (.const (.int .i64 0))) ∧
  RE c54_50 3 ∧
  Seq C c54_49 c54_50 .ret ∧
  Seq C c54_13 c54_14 c54_49 ∧
  Seq C c54_11 c54_12 c54_13 ∧
  Seq C c54_5 c54_6 c54_11 ∧
  Seq C c54_3 c54_4 c54_5 ∧
  Seq C c54_1 c54_2 c54_3 :=
  ⟨reg_mk rfl, row1 rfl, row1 rfl, rowE rfl, reg_mk rfl, row1 rfl, row1 rfl, row1 rfl, row1 rfl, rowE rfl, reg_mk rfl, row1 rfl, row1 rfl, row1 rfl, row1 rfl, rowE rfl, reg_mk rfl, row1 rfl, row1 rfl, rowE rfl, seq_mk rfl, cond_mk rfl, seq_mk rfl, reg_mk rfl, row1 rfl, row1 rfl, row1 rfl, rowE rfl, reg_mk rfl, row1 rfl, rowE rfl, reg_mk rfl, row1 rfl, row1 rfl, row1 rfl, row1 rfl, rowE rfl, cond_mk rfl, seq_mk rfl, reg_mk rfl, row1 rfl, row1 rfl, row1 rfl, row1 rfl, row1 rfl, row1 rfl, row1 rfl, row1 rfl, rowE rfl, reg_mk rfl, row1 rfl, row1 rfl, rowE rfl, seq_mk rfl, cond_mk rfl, seq_mk rfl, reg_mk rfl, row1 rfl, rowE rfl, reg_mk rfl, row1 rfl, row1 rfl, row1 rfl, row1 rfl, rowE rfl, cond_mk rfl, seq_mk rfl, draw_mk rfl, dow1 rfl, dow1 rfl, dow1 rfl, dow1 rfl, dowG rfl rfl, dowG rfl rfl, dowG rfl rfl, dowG rfl rfl, dowG rfl rfl, dowG rfl rfl, dowG rfl rfl, dowG rfl rfl, dowG rfl rfl, dowG rfl rfl, dowG rfl rfl, dowG rfl rfl, dow1 rfl, dowE rfl, reg_mk rfl, row1 rfl, row1 rfl, rowE rfl, seq_mk rfl, cond_mk rfl, seq_mk rfl, blk_mk rfl, reg_mk rfl, row1 rfl, row1 rfl, row1 rfl, rowE rfl, seq_mk rfl, seq_mk rfl, lp_mk rfl, blk_mk rfl, seq_mk rfl, draw_mk rfl, dow1 rfl, dow1 rfl, dow1 rfl, dow1 rfl, dow1 rfl, dow1 rfl, dow1 rfl, dow1 rfl, dow1 rfl, dow1 rfl, dow1 rfl, dow1 rfl, dow1 rfl, dow1 rfl, dow1 rfl, dow0 rfl, dowE rfl, seq_mk rfl, seq_mk rfl, blk_mk rfl, reg_mk rfl, row1 rfl, row1 rfl, row1 rfl, rowE rfl, seq_mk rfl, seq_mk rfl, lp_mk rfl, blk_mk rfl, seq_mk rfl, reg_mk rfl, row1 rfl, row1 rfl, row1 rfl, rowE rfl, seq_mk rfl, seq_mk rfl, seq_mk rfl, seq_mk rfl, seq_mk rfl, seq_mk rfl⟩
theorem body54 : Try.f54.body = some c54_1 := rfl
/-! fluxion/fluxionref12.come -/
noncomputable def c26_1 : Code := (Try.f26.body).getD .skip
noncomputable def c26_2 : Code := kid c26_1 0
noncomputable def c26_3 : Code := kid c26_1 1
noncomputable def c26_4 : Code := kid c26_3 0
noncomputable def c26_5 : Code := kid c26_3 1
noncomputable def c26_6 : Code := kid c26_5 0
noncomputable def c26_7 : Code := kid c26_6 0
noncomputable def c26_8 : Code := kid c26_6 1
noncomputable def c26_9 : Code := kid c26_8 0
noncomputable def c26_10 : Code := kid c26_9 0
noncomputable def c26_11 : Code := kid c26_10 0
noncomputable def c26_12 : Code := kid c26_10 1
noncomputable def c26_13 : Code := kid c26_12 1
noncomputable def c26_14 : Code := kid c26_13 0
noncomputable def c26_15 : Code := kid c26_13 1
noncomputable def c26_16 : Code := kid c26_15 1
noncomputable def c26_17 : Code := kid c26_16 0
noncomputable def c26_18 : Code := kid c26_16 1
noncomputable def c26_19 : Code := kid c26_18 1
noncomputable def c26_20 : Code := kid c26_9 1
noncomputable def c26_21 : Code := kid c26_20 0
noncomputable def c26_22 : Code := kid c26_21 0
noncomputable def c26_23 : Code := kid c26_22 0
noncomputable def c26_24 : Code := kid c26_22 1
noncomputable def c26_25 : Code := kid c26_24 0
noncomputable def c26_26 : Code := kid c26_25 0
noncomputable def c26_27 : Code := kid c26_21 1
noncomputable def c26_28 : Code := kid c26_27 0
noncomputable def c26_29 : Code := kid c26_20 1
noncomputable def c26_30 : Code := kid c26_29 0
noncomputable def c26_31 : Code := kid c26_29 1
noncomputable def c26_32 : Code := kid c26_31 0
noncomputable def c26_33 : Code := kid c26_32 0
noncomputable def c26_34 : Code := kid c26_31 1
noncomputable def c26_35 : Code := kid c26_34 0
noncomputable def c26_36 : Code := kid c26_34 1
noncomputable def c26_37 : Code := kid c26_36 0
noncomputable def c26_38 : Code := kid c26_37 0
noncomputable def c26_39 : Code := kid c26_37 1
noncomputable def c26_40 : Code := kid c26_39 0
noncomputable def c26_41 : Code := kid c26_40 0
noncomputable def c26_42 : Code := kid c26_40 1
noncomputable def c26_43 : Code := kid c26_42 0
noncomputable def c26_44 : Code := kid c26_43 0
noncomputable def c26_45 : Code := kid c26_39 1
noncomputable def c26_46 : Code := kid c26_45 0
noncomputable def c26_47 : Code := kid c26_46 0
noncomputable def c26_48 : Code := kid c26_46 1
noncomputable def c26_49 : Code := kid c26_48 0
noncomputable def c26_50 : Code := kid c26_49 0
noncomputable def c26_51 : Code := kid c26_45 1
noncomputable def c26_52 : Code := kid c26_51 0
noncomputable def c26_53 : Code := kid c26_52 0
noncomputable def c26_54 : Code := kid c26_52 1
noncomputable def c26_55 : Code := kid c26_54 0
noncomputable def c26_56 : Code := kid c26_55 0
noncomputable def c26_57 : Code := kid c26_51 1
noncomputable def c26_58 : Code := kid c26_57 0
noncomputable def c26_59 : Code := kid c26_36 1
noncomputable def c26_60 : Code := kid c26_59 0
noncomputable def c26_61 : Code := kid c26_59 1
noncomputable def c26_62 : Code := kid c26_61 0
noncomputable def c26_63 : Code := kid c26_62 0
noncomputable def c26_64 : Code := kid c26_63 0
noncomputable def c26_65 : Code := kid c26_63 1
noncomputable def c26_66 : Code := kid c26_65 0
noncomputable def c26_67 : Code := kid c26_66 0
noncomputable def c26_68 : Code := kid c26_62 1
noncomputable def c26_69 : Code := kid c26_68 0
noncomputable def c26_70 : Code := kid c26_68 1
noncomputable def c26_71 : Code := kid c26_70 0
noncomputable def c26_72 : Code := kid c26_71 0
noncomputable def c26_73 : Code := kid c26_71 1
noncomputable def c26_74 : Code := kid c26_73 0
noncomputable def c26_75 : Code := kid c26_74 0
noncomputable def c26_76 : Code := kid c26_75 0
noncomputable def c26_77 : Code := kid c26_76 0
noncomputable def c26_78 : Code := kid c26_76 1
noncomputable def c26_79 : Code := kid c26_75 1
noncomputable def c26_80 : Code := kid c26_79 0
noncomputable def c26_81 : Code := kid c26_80 0
noncomputable def c26_82 : Code := kid c26_79 1
noncomputable def c26_83 : Code := kid c26_70 1
noncomputable def c26_84 : Code := kid c26_83 0
noncomputable def c26_85 : Code := kid c26_61 1
noncomputable def c26_86 : Code := kid c26_85 0
noncomputable def c26_87 : Code := kid c26_85 1
noncomputable def c26_88 : Code := kid c26_87 0
noncomputable def c26_89 : Code := kid c26_88 0
noncomputable def c26_90 : Code := kid c26_89 0
noncomputable def c26_91 : Code := kid c26_89 1
noncomputable def c26_92 : Code := kid c26_91 0
noncomputable def c26_93 : Code := kid c26_92 0
noncomputable def c26_94 : Code := kid c26_88 1
noncomputable def c26_95 : Code := kid c26_94 0
noncomputable def c26_96 : Code := kid c26_87 1
noncomputable def c26_97 : Code := kid c26_96 0
noncomputable def c26_98 : Code := kid c26_96 1
noncomputable def c26_99 : Code := kid c26_98 0
noncomputable def c26_100 : Code := kid c26_99 0
noncomputable def c26_101 : Code := kid c26_100 0
noncomputable def c26_102 : Code := kid c26_100 1
noncomputable def c26_103 : Code := kid c26_102 0
noncomputable def c26_104 : Code := kid c26_103 0
noncomputable def c26_105 : Code := kid c26_99 1
noncomputable def c26_106 : Code := kid c26_105 0
noncomputable def c26_107 : Code := kid c26_98 1
noncomputable def c26_108 : Code := kid c26_107 0
noncomputable def c26_109 : Code := kid c26_108 0
noncomputable def c26_110 : Code := kid c26_108 1
noncomputable def c26_111 : Code := kid c26_110 1
noncomputable def c26_112 : Code := kid c26_107 1
noncomputable def c26_113 : Code := kid c26_112 0
noncomputable def c26_114 : Code := kid c26_113 0
noncomputable def c26_115 : Code := kid c26_114 0
noncomputable def c26_116 : Code := kid c26_114 1
noncomputable def c26_117 : Code := kid c26_116 0
noncomputable def c26_118 : Code := kid c26_117 0
noncomputable def c26_119 : Code := kid c26_113 1
noncomputable def c26_120 : Code := kid c26_119 0
noncomputable def c26_121 : Code := kid c26_112 1
noncomputable def c26_122 : Code := kid c26_121 0
noncomputable def c26_123 : Code := kid c26_121 1
noncomputable def c26_124 : Code := kid c26_123 0
noncomputable def c26_125 : Code := kid c26_124 0
noncomputable def c26_126 : Code := kid c26_123 1
noncomputable def c26_127 : Code := kid c26_126 0
noncomputable def c26_128 : Code := kid c26_126 1
noncomputable def c26_129 : Code := kid c26_128 0
noncomputable def c26_130 : Code := kid c26_129 0
noncomputable def c26_131 : Code := kid c26_128 1
noncomputable def c26_132 : Code := kid c26_131 0
noncomputable def c26_133 : Code := kid c26_131 1
noncomputable def c26_134 : Code := kid c26_133 0
noncomputable def c26_135 : Code := kid c26_134 0
noncomputable def c26_136 : Code := kid c26_5 1
noncomputable def c26_137 : Code := kid c26_136 0
@[go_sem] theorem w26 : Reg C c26_2 ∧
  R1 c26_2 0 1 6 (.assign (.const (.slice none 0 0))) ∧
  R1 c26_2 1 2 7 (.assign (.const (.int .i64 0))) ∧
  RE c26_2 2 ∧
  Reg C c26_4 ∧
  R1 c26_4 0 1 13 (.move t2) ∧
  R1 c26_4 1 2 14 (.indexAddr 34 t13 (.const (.int .i64 0))) ∧
  R1 c26_4 2 3 15 (.load 23 t14) ∧
  R1 c26_4 3 4 8 (.assign t15) ∧
  RE c26_4 4 ∧
  Reg C c26_7 ∧
  R1 c26_7 0 1 16 (.move t0) ∧
  RE c26_7 1 ∧
  Reg C c26_11 ∧
  R1 c26_11 0 1 18 (.binOp .eql 3 t16 (.const (.int .i64 1)) 3) ∧
  R1 c26_11 1 2 17 (.assign t18) ∧
  RE c26_11 2 ∧
  Reg C c26_14 ∧
  R1 c26_14 0 1 19 (.binOp .eql 3 t16 (.const (.int .i64 2)) 3) ∧
  R1 c26_14 1 2 17 (.assign t19) ∧
  RE c26_14 2 ∧
  Reg C c26_17 ∧
  R1 c26_17 0 1 20 (.binOp .eql 3 t16 (.const (.int .i64 3)) 3) ∧
  R1 c26_17 1 2 17 (.assign t20) ∧
  RE c26_17 2 ∧
  Reg C c26_19 ∧
  R1 c26_19 0 1 21 (.binOp .eql 3 t16 (.const (.int .i64 4)) 3) ∧
  R1 c26_19 1 2 17 (.assign t21) ∧
  RE c26_19 2 ∧
  Cond C c26_18 t17 .skip c26_19 ∧
  Seq C c26_16 c26_17 c26_18 ∧
  Cond C c26_15 t17 .skip c26_16 ∧
  Seq C c26_13 c26_14 c26_15 ∧
  Cond C c26_12 t17 .skip c26_13 ∧
  Seq C c26_10 c26_11 c26_12 ∧
  Reg C c26_23 ∧
  R1 c26_23 0 1 22 (.move t8) ∧
  R1 c26_23 1 2 23 (.move t2) ∧
  R1 c26_23 2 3 24 (.indexAddr 34 t23 (.const (.int .i64 1))) ∧
  R1 c26_23 3 4 25 (.load 23 t24) ∧
  R1 c26_23 4 5 26 (.call ⟨.value (.func 13), #[t22, t25], #[23, 23]⟩) ∧
  R1 c26_23 5 6 27 (.unOp .not 4 t26) ∧
  RE c26_23 6 ∧
  Reg C c26_26 ∧
  R1 c26_26 0 1 6 (.assign (.const (.slice none 0 0))) ∧
  R1 c26_26 1 2 7 (.assign (.const (.int .i64 13))) ∧
  RE c26_26 2 ∧
  Seq C c26_25 c26_26 .ret ∧
  Cond C c26_24 t27 c26_25 .skip ∧
  Seq C c26_22 c26_23 c26_24 ∧
  Reg C c26_28 ∧
  R1 c26_28 0 1 28 (.move t8) ∧
  R1 c26_28 1 2 6 (.assign t28) ∧
  R1 c26_28 2 3 7 (.assign (.const (.int .i64 0))) ∧
  RE c26_28 3 ∧
  Seq C c26_27 c26_28 .ret ∧
  Seq C c26_21 c26_22 c26_27 ∧
  Reg C c26_30 ∧
  R1 c26_30 0 1 30 (.binOp .eql 3 t16 (.const (.int .i64 10)) 3) ∧
  R1 c26_30 1 2 29 (.assign t30) ∧
  RE c26_30 2 ∧
  Reg C c26_33 ∧
  R1 c26_33 0 1 31 (.move t8) ∧
  R1 c26_33 1 2 32 (.move t2) ∧
  R1 c26_33 2 3 33 (.indexAddr 34 t32 (.const (.int .i64 1))) ∧
  R1 c26_33 3 4 34 (.load 23 t33) ∧
  R1 c26_33 4 5 35 (.call ⟨.value (.func 49), #[t31, t34], #[23, 23]⟩) ∧
  R1 c26_33 5 6 36 (.extract t35 0) ∧
  R1 c26_33 6 7 37 (.extract t35 1) ∧
  R1 c26_33 7 8 6 (.assign t36) ∧
  R1 c26_33 8 9 7 (.assign t37) ∧
  RE c26_33 9 ∧
  Seq C c26_32 c26_33 .ret ∧
  Reg C c26_35 ∧
  R1 c26_35 0 1 39 (.binOp .eql 3 t16 (.const (.int .i64 19)) 3) ∧
  R1 c26_35 1 2 38 (.assign t39) ∧
  RE c26_35 2 ∧
  Reg C c26_38 ∧
  R1 c26_38 0 1 41 (.move t8) ∧
  R1 c26_38 1 2 42 (.move t2) ∧
  R1 c26_38 2 3 43 (.indexAddr 34 t42 (.const (.int .i64 1))) ∧
  R1 c26_38 3 4 44 (.load 23 t43) ∧
  R1 c26_38 4 5 45 (.call ⟨.value (.func 49), #[t41, t44], #[23, 23]⟩) ∧
  R1 c26_38 5 6 40 (.move t45) ∧
  R1 c26_38 6 7 46 (.extract t40 0) ∧
  R1 c26_38 7 8 47 (.extract t40 1) ∧
  R1 c26_38 8 9 9 (.assign t46) ∧
  R1 c26_38 9 10 10 (.assign t47) ∧
  RE c26_38 10 ∧
  Reg C c26_41 ∧
  R1 c26_41 0 1 48 (.move t10) ∧
  R1 c26_41 1 2 49 (.binOp .neq 3 t48 (.const (.int .i64 0)) 3) ∧
  RE c26_41 2 ∧
  Reg C c26_44 ∧
  R1 c26_44 0 1 50 (.move t10) ∧
  R1 c26_44 1 2 6 (.assign (.const (.slice none 0 0))) ∧
  R1 c26_44 2 3 7 (.assign t50) ∧
  RE c26_44 3 ∧
  Seq C c26_43 c26_44 .ret ∧
  Cond C c26_42 t49 c26_43 .skip ∧
  Seq C c26_40 c26_41 c26_42 ∧
  Reg C c26_47 ∧
  R1 c26_47 0 1 51 (.move t9) ∧
  R1 c26_47 1 2 52 (.call ⟨.value (.func 18), #[t51], #[23]⟩) ∧
  R1 c26_47 2 3 53 (.binOp .neq 3 t52 (.const (.int .i64 0)) 3) ∧
  RE c26_47 3 ∧
  Reg C c26_50 ∧
  R1 c26_50 0 1 6 (.assign (.const (.slice none 0 0))) ∧
  R1 c26_50 1 2 7 (.assign (.const (.int .i64 14))) ∧
  RE c26_50 2 ∧
  Seq C c26_49 c26_50 .ret ∧
  Cond C c26_48 t53 c26_49 .skip ∧
  Seq C c26_46 c26_47 c26_48 ∧
  Reg C c26_53 ∧
  R1 c26_53 0 1 54 (.move t2) ∧
  R1 c26_53 1 2 55 (.indexAddr 34 t54 (.const (.int .i64 2))) ∧
  R1 c26_53 2 3 56 (.load 23 t55) ∧
  R1 c26_53 3 4 57 (.move t9) ∧
  R1 c26_53 4 5 58 (.call ⟨.value (.func 50), #[t56, t57], #[23, 23]⟩) ∧
  R1 c26_53 5 6 59 (.binOp .neq 3 t58 (.const (.int .i64 0)) 3) ∧
  RE c26_53 6 ∧
  Reg C c26_56 ∧
  R1 c26_56 0 1 6 (.assign (.const (.slice none 0 0))) ∧
  R1 c26_56 1 2 7 (.assign (.const (.int .i64 13))) ∧
  RE c26_56 2 ∧
  Seq C c26_55 c26_56 .ret ∧
  Cond C c26_54 t59 c26_55 .skip ∧
  Seq C c26_52 c26_53 c26_54 ∧
  Reg C c26_58 ∧
  R1 c26_58 0 1 60 (.move t9) ∧
  R1 c26_58 1 2 6 (.assign t60) ∧
  R1 c26_58 2 3 7 (.assign (.const (.int .i64 0))) ∧
  RE c26_58 3 ∧
  Seq C c26_57 c26_58 .ret ∧
  Seq C c26_51 c26_52 c26_57 ∧
  Seq C c26_45 c26_46 c26_51 ∧
  Seq C c26_39 c26_40 c26_45 ∧
  Seq C c26_37 c26_38 c26_39 ∧
  Reg C c26_60 ∧
  R1 c26_60 0 1 62 (.binOp .eql 3 t16 (.const (.int .i64 11)) 3) ∧
  R1 c26_60 1 2 61 (.assign t62) ∧
  RE c26_60 2 ∧
  Reg C c26_64 ∧
  R1 c26_64 0 1 63 (.move t1) ∧
  R1 c26_64 1 2 64 (.call ⟨.builtin .len, #[t63], #[23]⟩) ∧
  R1 c26_64 2 3 65 (.move t8) ∧
  R1 c26_64 3 4 66 (.call ⟨.builtin .len, #[t65], #[23]⟩) ∧
  R1 c26_64 4 5 67 (.binOp .neq 3 t64 t66 3) ∧
  RE c26_64 5 ∧
  Reg C c26_67 ∧
  R1 c26_67 0 1 6 (.assign (.const (.slice none 0 0))) ∧
  R1 c26_67 1 2 7 (.assign (.const (.int .i64 13))) ∧
  RE c26_67 2 ∧
  Seq C c26_66 c26_67 .ret ∧
  Cond C c26_65 t67 c26_66 .skip ∧
  Seq C c26_63 c26_64 c26_65 ∧
  Reg C c26_69 ∧
  R1 c26_69 0 1 11 (.assign (.const (.slice none 0 0))) ∧
  RE c26_69 1 ∧
  Reg C c26_72 ∧
  R1 c26_72 0 1 12 (.assign (.const (.int .i64 0))) ∧
  RE c26_72 1 ∧
  Reg C c26_77 ∧
  R1 c26_77 0 1 68 (.move t12) ∧
  R1 c26_77 1 2 69 (.move t1) ∧
  R1 c26_77 2 3 70 (.call ⟨.builtin .len, #[t69], #[23]⟩) ∧
  R1 c26_77 3 4 71 (.binOp .lss 3 t68 t70 3) ∧
  RE c26_77 4 ∧
  Cond C c26_78 t71 .skip (.exit 1) ∧
  Seq C c26_76 c26_77 c26_78 ∧
  Reg C c26_81 ∧
  R1 c26_81 0 1 74 (.move t11) ∧
  R1 c26_81 1 2 75 (.move t8) ∧
  R1 c26_81 2 3 76 (.move t1) ∧
  R1 c26_81 3 4 77 (.move t12) ∧
  R1 c26_81 4 5 78 (.indexAddr 23 t76 t77) ∧
  R1 c26_81 5 6 79 (.load 3 t78) ∧
  R1 c26_81 6 7 80 (.indexAddr 23 t75 t79) ∧
  R1 c26_81 7 8 81 (.load 3 t80) ∧
  R1 c26_81 8 9 82 (.buildSlice 23 1 #[(0, t81)]) ∧
  R1 c26_81 9 10 83 (.call ⟨.builtin .append, #[t74, t82], #[23, 23]⟩) ∧
  R1 c26_81 10 11 11 (.assign t83) ∧
  RE c26_81 11 ∧
  Blk C c26_80 2 c26_81 ∧
  Reg C c26_82 ∧
  R1 c26_82 0 1 72 (.move t12) ∧
  R1 c26_82 1 2 73 (.binOp .add 3 t72 (.const (.int .i64 1)) 3) ∧
  R1 c26_82 2 3 12 (.assign t73) ∧
  RE c26_82 3 ∧
  Seq C c26_79 c26_80 c26_82 ∧
  Seq C c26_75 c26_76 c26_79 ∧
  Lp C c26_74 c26_75 ∧
  Blk C c26_73 1 c26_74 ∧
  Seq C c26_71 c26_72 c26_73 ∧
  Reg C c26_84 ∧
  R1 c26_84 0 1 84 (.move t11) ∧
  R1 c26_84 1 2 6 (.assign t84) ∧
  R1 c26_84 2 3 7 (.assign (.const (.int .i64 0))) ∧
  RE c26_84 3 ∧
  Seq C c26_83 c26_84 .ret ∧
  Seq C c26_70 c26_71 c26_83 ∧
  Seq C c26_68 c26_69 c26_70 ∧
  Seq C c26_62 c26_63 c26_68 ∧
  Reg C c26_86 ∧
  R1 c26_86 0 1 86 (.binOp .eql 3 t16 (.const (.int .i64 12)) 3) ∧
  R1 c26_86 1 2 85 (.assign t86) ∧
  RE c26_86 2 ∧
  Reg C c26_90 ∧
  R1 c26_90 0 1 87 (.move t1) ∧
  R1 c26_90 1 2 88 (.call ⟨.value (.func 19), #[t87], #[23]⟩) ∧
  R1 c26_90 2 3 89 (.move t8) ∧
  R1 c26_90 3 4 90 (.call ⟨.value (.func 19), #[t89], #[23]⟩) ∧
  R1 c26_90 4 5 91 (.binOp .neq 3 t88 t90 3) ∧
  RE c26_90 5 ∧
  Reg C c26_93 ∧
  R1 c26_93 0 1 6 (.assign (.const (.slice none 0 0))) ∧
  R1 c26_93 1 2 7 (.assign (.const (.int .i64 13))) ∧
  RE c26_93 2 ∧
  Seq C c26_92 c26_93 .ret ∧
  Cond C c26_91 t91 c26_92 .skip ∧
  Seq C c26_89 c26_90 c26_91 ∧
  Reg C c26_95 ∧
  R1 c26_95 0 1 92 (.move t1) ∧
  R1 c26_95 1 2 6 (.assign t92) ∧
  R1 c26_95 2 3 7 (.assign (.const (.int .i64 0))) ∧
  RE c26_95 3 ∧
  Seq C c26_94 c26_95 .ret ∧
  Seq C c26_88 c26_89 c26_94 ∧
  Reg C c26_97 ∧
  R1 c26_97 0 1 94 (.binOp .eql 3 t16 (.const (.int .i64 13)) 3) ∧
  R1 c26_97 1 2 93 (.assign t94) ∧
  RE c26_97 2 ∧
  Reg C c26_101 ∧
  R1 c26_101 0 1 95 (.move t8) ∧
  R1 c26_101 1 2 96 (.move t1) ∧
  R1 c26_101 2 3 97 (.call ⟨.value (.func 50), #[t95, t96], #[23, 23]⟩) ∧
  R1 c26_101 3 4 98 (.binOp .neq 3 t97 (.const (.int .i64 0)) 3) ∧
  RE c26_101 4 ∧
  Reg C c26_104 ∧
  R1 c26_104 0 1 6 (.assign (.const (.slice none 0 0))) ∧
  R1 c26_104 1 2 7 (.assign (.const (.int .i64 13))) ∧
  RE c26_104 2 ∧
  Seq C c26_103 c26_104 .ret ∧
  Cond C c26_102 t98 c26_103 .skip ∧
  Seq C c26_100 c26_101 c26_102 ∧
  Reg C c26_106 ∧
  R1 c26_106 0 1 99 (.move t1) ∧
  R1 c26_106 1 2 6 (.assign t99) ∧
  R1 c26_106 2 3 7 (.assign (.const (.int .i64 0))) ∧
  RE c26_106 3 ∧
  Seq C c26_105 c26_106 .ret ∧
  Seq C c26_99 c26_100 c26_105 ∧
  Reg C c26_109 ∧
  R1 c26_109 0 1 101 (.binOp .eql 3 t16 (.const (.int .i64 14)) 3) ∧
  R1 c26_109 1 2 100 (.assign t101) ∧
  RE c26_109 2 ∧
  Reg C c26_111 ∧
  R1 c26_111 0 1 102 (.binOp .eql 3 t16 (.const (.int .i64 20)) 3) ∧
  R1 c26_111 1 2 100 (.assign t102) ∧
  RE c26_111 2 ∧
  Cond C c26_110 t100 .skip c26_111 ∧
  Seq C c26_108 c26_109 c26_110 ∧
  Reg C c26_115 ∧
  R1 c26_115 0 1 103 (.move t1) ∧
  R1 c26_115 1 2 104 (.call ⟨.builtin .len, #[t103], #[23]⟩) ∧
  R1 c26_115 2 3 105 (.binOp .gtr 3 t104 (.const (.int .i64 0)) 3) ∧
  R1 c26_115 3 4 106 (.move t105) ∧
  RG c26_115 4 5 (some 107) (.move t1) 106 true ∧
  RG c26_115 5 6 (some 108) (.move t1) 106 true ∧
  RG c26_115 6 7 (some 109) (.call ⟨.builtin .len, #[t108], #[23]⟩) 106 true ∧
  RG c26_115 7 8 (some 110) (.binOp .sub 3 t109 (.const (.int .i64 1)) 3) 106 true ∧
  RG c26_115 8 9 (some 111) (.indexAddr 23 t107 t110) 106 true ∧
  RG c26_115 9 10 (some 112) (.load 3 t111) 106 true ∧
  RG c26_115 10 11 (some 113) (.move t8) 106 true ∧
  RG c26_115 11 12 (some 114) (.call ⟨.builtin .len, #[t113], #[23]⟩) 106 true ∧
  RG c26_115 12 13 (some 115) (.binOp .geq 3 t112 t114 3) 106 true ∧
  R1 c26_115 13 14 116 (.pick t106 t115 (.const (.bool false))) ∧
  RE c26_115 14 ∧
  Reg C c26_118 ∧
  R1 c26_118 0 1 6 (.assign (.const (.slice none 0 0))) ∧
  R1 c26_118 1 2 7 (.assign (.const (.int .i64 13))) ∧
  RE c26_118 2 ∧
  Seq C c26_117 c26_118 .ret ∧
  Cond C c26_116 t116 c26_117 .skip ∧
  Seq C c26_114 c26_115 c26_116 ∧
  Reg C c26_120 ∧
  R1 c26_120 0 1 117 (.move t8) ∧
  R1 c26_120 1 2 118 (.move t1) ∧
  R1 c26_120 2 3 119 (.call ⟨.value (.func 51), #[t117, t118], #[23, 23]⟩) ∧
  R1 c26_120 3 4 6 (.assign t119) ∧
  R1 c26_120 4 5 7 (.assign (.const (.int .i64 0))) ∧
  RE c26_120 5 ∧
  Seq C c26_119 c26_120 .ret ∧
  Seq C c26_113 c26_114 c26_119 ∧
  Reg C c26_122 ∧
  R1 c26_122 0 1 121 (.binOp .eql 3 t16 (.const (.int .i64 15)) 3) ∧
  R1 c26_122 1 2 120 (.assign t121) ∧
  RE c26_122 2 ∧
  Reg C c26_125 ∧
  R1 c26_125 0 1 122 (.move t8) ∧
  R1 c26_125 1 2 123 (.move t1) ∧
  R1 c26_125 2 3 124 (.call ⟨.value (.func 52), #[t122, t123], #[23, 23]⟩) ∧
  R1 c26_125 3 4 125 (.extract t124 0) ∧
  R1 c26_125 4 5 126 (.extract t124 1) ∧
  R1 c26_125 5 6 6 (.assign t125) ∧
  R1 c26_125 6 7 7 (.assign t126) ∧
  RE c26_125 7 ∧
  Seq C c26_124 c26_125 .ret ∧
  Reg C c26_127 ∧
  R1 c26_127 0 1 128 (.binOp .eql 3 t16 (.const (.int .i64 16)) 3) ∧
  R1 c26_127 1 2 127 (.assign t128) ∧
  RE c26_127 2 ∧
  Reg C c26_130 ∧
  R1 c26_130 0 1 129 (.move t8) ∧
  R1 c26_130 1 2 130 (.move t1) ∧
  R1 c26_130 2 3 131 (.call ⟨.value (.func 53), #[t129, t130], #[23, 23]⟩) ∧
  R1 c26_130 3 4 132 (.extract t131 0) ∧
  R1 c26_130 4 5 133 (.extract t131 1) ∧
  R1 c26_130 5 6 6 (.assign t132) ∧
  R1 c26_130 6 7 7 (.assign t133) ∧
  RE c26_130 7 ∧
  Seq C c26_129 c26_130 .ret ∧
  Reg C c26_132 ∧
  R1 c26_132 0 1 135 (.binOp .eql 3 t16 (.const (.int .i64 17)) 3) ∧
  R1 c26_132 1 2 134 (.assign t135) ∧
  RE c26_132 2 ∧
  Reg C c26_135 ∧
  R1 c26_135 0 1 136 (.move t1) ∧
  R1 c26_135 1 2 137 (.indexAddr 23 t136 (.const (.int .i64 0))) ∧
  R1 c26_135 2 3 138 (.load 3 t137) ∧
  R1 c26_135 3 4 139 (.move t2) ∧
  R1 c26_135 4 5 140 (.call ⟨.value (.func 54), #[t138, t139], #[3, 34]⟩) ∧
  R1 c26_135 5 6 141 (.extract t140 0) ∧
  R1 c26_135 6 7 142 (.extract t140 1) ∧
  R1 c26_135 7 8 6 (.assign t141) ∧
  R1 c26_135 8 9 7 (.assign t142) ∧
  RE c26_135 9 ∧
  Seq C c26_134 c26_135 .ret ∧
  Cond C c26_133 t134 c26_134 .skip ∧
  Seq C c26_131 c26_132 c26_133 ∧
  Cond C c26_128 t127 c26_129 c26_131 ∧
  Seq C c26_126 c26_127 c26_128 ∧
  Cond C c26_123 t120 c26_124 c26_126 ∧
  Seq C c26_121 c26_122 c26_123 ∧
  Cond C c26_112 t100 c26_113 c26_121 ∧
  Seq C c26_107 c26_108 c26_112 ∧
  Cond C c26_98 t93 c26_99 c26_107 ∧
  Seq C c26_96 c26_97 c26_98 ∧
  Cond C c26_87 t85 c26_88 c26_96 ∧
  Seq C c26_85 c26_86 c26_87 ∧
  Cond C c26_61 t61 c26_62 c26_85 ∧
  Seq C c26_59 c26_60 c26_61 ∧
  Cond C c26_36 t38 c26_37 c26_59 ∧
  Seq C c26_34 c26_35 c26_36 ∧
  Cond C c26_31 t29 c26_32 c26_34 ∧
  Seq C c26_29 c26_30 c26_31 ∧
  Cond C c26_20 t17 c26_21 c26_29 ∧
  Seq C c26_9 c26_10 c26_20 ∧
  Blk C c26_8 0 c26_9 ∧
  Seq C c26_6 c26_7 c26_8 ∧
  Reg C c26_137 ∧
  R1 c26_137 0 1 143 (.move t8) ∧
  R1 c26_137 1 2 6 (.assign t143) ∧
  R1 c26_137 2 3 7 (.assign (.const (.int .i64 0))) ∧
  RE c26_137 3 ∧
  Seq C c26_136 c26_137 .ret ∧
  Seq C c26_5 c26_6 c26_136 ∧
  Seq C c26_3 c26_4 c26_5 ∧
  Seq C c26_1 c26_2 c26_3 :=
  ⟨reg_mk rfl, row1 rfl, row1 rfl, rowE rfl, reg_mk rfl, row1 rfl, row1 rfl, row1 rfl, row1 rfl, rowE rfl, reg_mk rfl, row1 rfl, rowE rfl, reg_mk rfl, row1 rfl, row1 rfl, rowE rfl, reg_mk rfl, row1 rfl, row1 rfl, rowE rfl, reg_mk rfl, row1 rfl, row1 rfl, rowE rfl, reg_mk rfl, row1 rfl, row1 rfl, rowE rfl, cond_mk rfl, seq_mk rfl, cond_mk rfl, seq_mk rfl, cond_mk rfl, seq_mk rfl, reg_mk rfl, row1 rfl, row1 rfl, row1 rfl, row1 rfl, row1 rfl, row1 rfl, rowE rfl, reg_mk rfl, row1 rfl, row1 rfl, rowE rfl, seq_mk rfl, cond_mk rfl, seq_mk rfl, reg_mk rfl, row1 rfl, row1 rfl, row1 rfl, rowE rfl, seq_mk rfl, seq_mk rfl, reg_mk rfl, row1 rfl, row1 rfl, rowE rfl, reg_mk rfl, row1 rfl, row1 rfl, row1 rfl, row1 rfl, row1 rfl, row1 rfl, row1 rfl, row1 rfl, row1 rfl, rowE rfl, seq_mk rfl, reg_mk rfl, row1 rfl, row1 rfl, rowE rfl, reg_mk rfl, row1 rfl, row1 rfl, row1 rfl, row1 rfl, row1 rfl, row1 rfl, row1 rfl, row1 rfl, row1 rfl, row1 rfl, rowE rfl, reg_mk rfl, row1 rfl, row1 rfl, rowE rfl, reg_mk rfl, row1 rfl, row1 rfl, row1 rfl, rowE rfl, seq_mk rfl, cond_mk rfl, seq_mk rfl, reg_mk rfl, row1 rfl, row1 rfl, row1 rfl, rowE rfl, reg_mk rfl, row1 rfl, row1 rfl, rowE rfl, seq_mk rfl, cond_mk rfl, seq_mk rfl, reg_mk rfl, row1 rfl, row1 rfl, row1 rfl, row1 rfl, row1 rfl, row1 rfl, rowE rfl, reg_mk rfl, row1 rfl, row1 rfl, rowE rfl, seq_mk rfl, cond_mk rfl, seq_mk rfl, reg_mk rfl, row1 rfl, row1 rfl, row1 rfl, rowE rfl, seq_mk rfl, seq_mk rfl, seq_mk rfl, seq_mk rfl, seq_mk rfl, reg_mk rfl, row1 rfl, row1 rfl, rowE rfl, reg_mk rfl, row1 rfl, row1 rfl, row1 rfl, row1 rfl, row1 rfl, rowE rfl, reg_mk rfl, row1 rfl, row1 rfl, rowE rfl, seq_mk rfl, cond_mk rfl, seq_mk rfl, reg_mk rfl, row1 rfl, rowE rfl, reg_mk rfl, row1 rfl, rowE rfl, reg_mk rfl, row1 rfl, row1 rfl, row1 rfl, row1 rfl, rowE rfl, cond_mk rfl, seq_mk rfl, reg_mk rfl, row1 rfl, row1 rfl, row1 rfl, row1 rfl, row1 rfl, row1 rfl, row1 rfl, row1 rfl, row1 rfl, row1 rfl, row1 rfl, rowE rfl, blk_mk rfl, reg_mk rfl, row1 rfl, row1 rfl, row1 rfl, rowE rfl, seq_mk rfl, seq_mk rfl, lp_mk rfl, blk_mk rfl, seq_mk rfl, reg_mk rfl, row1 rfl, row1 rfl, row1 rfl, rowE rfl, seq_mk rfl, seq_mk rfl, seq_mk rfl, seq_mk rfl, reg_mk rfl, row1 rfl, row1 rfl, rowE rfl, reg_mk rfl, row1 rfl, row1 rfl, row1 rfl, row1 rfl, row1 rfl, rowE rfl, reg_mk rfl, row1 rfl, row1 rfl, rowE rfl, seq_mk rfl, cond_mk rfl, seq_mk rfl, reg_mk rfl, row1 rfl, row1 rfl, row1 rfl, rowE rfl, seq_mk rfl, seq_mk rfl, reg_mk rfl, row1 rfl, row1 rfl, rowE rfl, reg_mk rfl, row1 rfl, row1 rfl, row1 rfl, row1 rfl, rowE rfl, reg_mk rfl, row1 rfl, row1 rfl, rowE rfl, seq_mk rfl, cond_mk rfl, seq_mk rfl, reg_mk rfl, row1 rfl, row1 rfl, row1 rfl, rowE rfl, seq_mk rfl, seq_mk rfl, reg_mk rfl, row1 rfl, row1 rfl, rowE rfl, reg_mk rfl, row1 rfl, row1 rfl, rowE rfl, cond_mk rfl, seq_mk rfl, reg_mk rfl, row1 rfl, row1 rfl, row1 rfl, row1 rfl, rowG rfl rfl, rowG rfl rfl, rowG rfl rfl, rowG rfl rfl, rowG rfl rfl, rowG rfl rfl, rowG rfl rfl, rowG rfl rfl, rowG rfl rfl, row1 rfl, rowE rfl, reg_mk rfl, row1 rfl, row1 rfl, rowE rfl, seq_mk rfl, cond_mk rfl, seq_mk rfl, reg_mk rfl, row1 rfl, row1 rfl, row1 rfl, row1 rfl, row1 rfl, rowE rfl, seq_mk rfl, seq_mk rfl, reg_mk rfl, row1 rfl, row1 rfl, rowE rfl, reg_mk rfl, row1 rfl, row1 rfl, row1 rfl, row1 rfl, row1 rfl, row1 rfl, row1 rfl, rowE rfl, seq_mk rfl, reg_mk rfl, row1 rfl, row1 rfl, rowE rfl, reg_mk rfl, row1 rfl, row1 rfl, row1 rfl, row1 rfl, row1 rfl, row1 rfl, row1 rfl, rowE rfl, seq_mk rfl, reg_mk rfl, row1 rfl, row1 rfl, rowE rfl, reg_mk rfl, row1 rfl, row1 rfl, row1 rfl, row1 rfl, row1 rfl, row1 rfl, row1 rfl, row1 rfl, row1 rfl, rowE rfl, seq_mk rfl, cond_mk rfl, seq_mk rfl, cond_mk rfl, seq_mk rfl, cond_mk rfl, seq_mk rfl, cond_mk rfl, seq_mk rfl, cond_mk rfl, seq_mk rfl, cond_mk rfl, seq_mk rfl, cond_mk rfl, seq_mk rfl, cond_mk rfl, seq_mk rfl, cond_mk rfl, seq_mk rfl, cond_mk rfl, seq_mk rfl, blk_mk rfl, seq_mk rfl, reg_mk rfl, row1 rfl, row1 rfl, row1 rfl, rowE rfl, seq_mk rfl, seq_mk rfl, seq_mk rfl, seq_mk rfl⟩
theorem body26 : Try.f26.body = some c26_1 := rfl
/-! fluxion/fluxionref12.Shape -/
noncomputable def c11_1 : Code := (Try.f11.body).getD .skip
noncomputable def c11_2 : Code := kid c11_1 0
noncomputable def c11_3 : Code := kid c11_1 1
noncomputable def c11_4 : Code := kid c11_3 0
noncomputable def c11_5 : Code := kid c11_3 1
noncomputable def c11_6 : Code := kid c11_5 0
noncomputable def c11_7 : Code := kid c11_6 0
noncomputable def c11_8 : Code := kid c11_6 1
noncomputable def c11_9 : Code := kid c11_8 0
noncomputable def c11_10 : Code := kid c11_9 0
noncomputable def c11_11 : Code := kid c11_5 1
noncomputable def c11_12 : Code := kid c11_11 0
noncomputable def c11_13 : Code := kid c11_12 0
noncomputable def c11_14 : Code := kid c11_12 1
noncomputable def c11_15 : Code := kid c11_14 0
noncomputable def c11_16 : Code := kid c11_15 0
noncomputable def c11_17 : Code := kid c11_11 1
noncomputable def c11_18 : Code := kid c11_17 0
noncomputable def c11_19 : Code := kid c11_18 0
noncomputable def c11_20 : Code := kid c11_18 1
noncomputable def c11_21 : Code := kid c11_20 0
noncomputable def c11_22 : Code := kid c11_21 0
noncomputable def c11_23 : Code := kid c11_22 0
noncomputable def c11_24 : Code := kid c11_23 0
noncomputable def c11_25 : Code := kid c11_23 1
noncomputable def c11_26 : Code := kid c11_22 1
noncomputable def c11_27 : Code := kid c11_26 0
noncomputable def c11_28 : Code := kid c11_27 0
noncomputable def c11_29 : Code := kid c11_28 0
noncomputable def c11_30 : Code := kid c11_28 1
noncomputable def c11_31 : Code := kid c11_30 0
noncomputable def c11_32 : Code := kid c11_30 1
noncomputable def c11_33 : Code := kid c11_32 0
noncomputable def c11_34 : Code := kid c11_33 0
noncomputable def c11_35 : Code := kid c11_26 1
noncomputable def c11_36 : Code := kid c11_17 1
noncomputable def c11_37 : Code := kid c11_36 0
noncomputable def c11_38 : Code := kid c11_36 1
noncomputable def c11_39 : Code := kid c11_38 0
noncomputable def c11_40 : Code := kid c11_39 0
noncomputable def c11_41 : Code := kid c11_39 1
noncomputable def c11_42 : Code := kid c11_41 0
noncomputable def c11_43 : Code := kid c11_42 0
noncomputable def c11_44 : Code := kid c11_38 1
noncomputable def c11_45 : Code := kid c11_44 0
noncomputable def c11_46 : Code := kid c11_45 0
noncomputable def c11_47 : Code := kid c11_45 1
noncomputable def c11_48 : Code := kid c11_47 0
noncomputable def c11_49 : Code := kid c11_48 0
noncomputable def c11_50 : Code := kid c11_44 1
noncomputable def c11_51 : Code := kid c11_50 0
@[go_sem] theorem w11 : Reg C c11_2 ∧
  R1 c11_2 0 1 4 (.box 25 t1) ∧
  R1 c11_2 1 2 6 (.assign (.const (.slice none 0 0))) ∧
  R1 c11_2 2 3 7 (.assign (.const (.int .i64 0))) ∧
  RE c11_2 3 ∧
  Reg C c11_4 ∧
  R1 c11_4 0 1 13 (.move t0) ∧
  R1 c11_4 1 2 14 (.load 25 t4) ∧
  R1 c11_4 2 3 15 (.call ⟨.value (.func 14), #[t13, t14], #[3, 25]⟩) ∧
  R1 c11_4 3 4 8 (.assign t15) ∧
  RE c11_4 4 ∧
  Reg C c11_7 ∧
  R1 c11_7 0 1 16 (.move t8) ∧
  R1 c11_7 1 2 17 (.binOp .neq 3 t16 (.const (.int .i64 0)) 3) ∧
  RE c11_7 2 ∧
  Reg C c11_10 ∧
  R1 c11_10 0 1 18 (.move t8) ∧
  R1 c11_10 1 2 6 (.assign (.const (.slice none 0 0))) ∧
  R1 c11_10 2 3 7 (.assign t18) ∧
  RE c11_10 3 ∧
  Seq C c11_9 c11_10 .ret ∧
  Cond C c11_8 t17 c11_9 .skip ∧
  Seq C c11_6 c11_7 c11_8 ∧
  Reg C c11_13 ∧
  R1 c11_13 0 1 19 (.move t2) ∧
  R1 c11_13 1 2 20 (.call ⟨.builtin .len, #[t19], #[34]⟩) ∧
  R1 c11_13 2 3 21 (.fieldAddr 25 t4 1) ∧
  R1 c11_13 3 4 22 (.load 23 t21) ∧
  R1 c11_13 4 5 23 (.call ⟨.builtin .len, #[t22], #[23]⟩) ∧
  R1 c11_13 5 6 24 (.binOp .neq 3 t20 t23 3) ∧
  RE c11_13 6 ∧
  Reg C c11_16 ∧
  R1 c11_16 0 1 6 (.assign (.const (.slice none 0 0))) ∧
  R1 c11_16 1 2 7 (.assign (.const (.int .i64 10))) ∧
  RE c11_16 2 ∧
  Seq C c11_15 c11_16 .ret ∧
  Cond C c11_14 t24 c11_15 .skip ∧
  Seq C c11_12 c11_13 c11_14 ∧
  Reg C c11_19 ∧
  R1 c11_19 0 1 9 (.assign (.const (.int .i64 0))) ∧
  RE c11_19 1 ∧
  Reg C c11_24 ∧
  R1 c11_24 0 1 25 (.move t9) ∧
  R1 c11_24 1 2 26 (.move t2) ∧
  R1 c11_24 2 3 27 (.call ⟨.builtin .len, #[t26], #[34]⟩) ∧
  R1 c11_24 3 4 28 (.binOp .lss 3 t25 t27 3) ∧
  RE c11_24 4 ∧
  Cond C c11_25 t28 .skip (.exit 0) ∧
  Seq C c11_23 c11_24 c11_25 ∧
  Reg C c11_29 ∧
  R1 c11_29 0 1 31 (.move t2) ∧
  R1 c11_29 1 2 32 (.move t9) ∧
  R1 c11_29 2 3 33 (.indexAddr 34 t31 t32) ∧
  R1 c11_29 3 4 34 (.load 23 t33) ∧
  R1 c11_29 4 5 35 (.call ⟨.value (.func 18), #[t34], #[23]⟩) ∧
  R1 c11_29 5 6 10 (.assign t35) ∧
  RE c11_29 6 ∧
  Reg C c11_31 ∧
  R1 c11_31 0 1 36 (.move t10) ∧
  R1 c11_31 1 2 37 (.binOp .neq 3 t36 (.const (.int .i64 0)) 3) ∧
  RE c11_31 2 ∧
  Reg C c11_34 ∧
  R1 c11_34 0 1 38 (.move t10) ∧
  R1 c11_34 1 2 6 (.assign (.const (.slice none 0 0))) ∧
  R1 c11_34 2 3 7 (.assign t38) ∧
  RE c11_34 3 ∧
  Seq C c11_33 c11_34 .ret ∧
  Cond C c11_32 t37 c11_33 .skip ∧
  Seq C c11_30 c11_31 c11_32 ∧
  Seq C c11_28 c11_29 c11_30 ∧
  Blk C c11_27 1 c11_28 ∧
  Reg C c11_35 ∧
  R1 c11_35 0 1 29 (.move t9) ∧
  R1 c11_35 1 2 30 (.binOp .add 3 t29 (.const (.int .i64 1)) 3) ∧
  R1 c11_35 2 3 9 (.assign t30) ∧
  RE c11_35 3 ∧
  Seq C c11_26 c11_27 c11_35 ∧
  Seq C c11_22 c11_23 c11_26 ∧
  Lp C c11_21 c11_22 ∧
  Blk C c11_20 0 c11_21 ∧
  Seq C c11_18 c11_19 c11_20 ∧
  Draw C c11_37 ∧
  D1 c11_37 0 1 40 (.fieldAddr 25 t4 0) ∧
  D1 c11_37 1 2 41 (.load 22 t40) ∧
  D1 c11_37 2 3 42 (.move t0) ∧
  D1 c11_37 3 4 43 (.load 25 t4) ∧
  D1 c11_37 4 5 44 (.move t2) ∧
  D1 c11_37 5 6 45 (.indexAddr 34 t44 (.const (.int .i64 0))) ∧
  D1 c11_37 6 7 46 (.load 23 t45) ∧
  D1 c11_37 7 8 47 (.call ⟨.builtin .len, #[t46], #[23]⟩) ∧
  D1 c11_37 8 9 48 (.call ⟨.value (.func 16), #[t42, t43, t47], #[3, 25, 3]⟩) ∧
  D1 c11_37 9 10 49 (.move t2) ∧
  D1 c11_37 10 11 50 (.call ⟨.value (.func 26), #[t41, t48, t49], #[22, 23, 34]⟩) ∧
  D1 c11_37 11 12 39 (.move t50) ∧
  D1 c11_37 12 13 51 (.extract t39 0) ∧
  D1 c11_37 13 14 52 (.extract t39 1) ∧
  D1 c11_37 14 15 11 (.assign t51) ∧
  D1 c11_37 15 16 12 (.assign t52) ∧
  DE c11_37 16 ∧
  Reg C c11_40 ∧
  R1 c11_40 0 1 53 (.move t12) ∧
  R1 c11_40 1 2 54 (.binOp .neq 3 t53 (.const (.int .i64 0)) 3) ∧
  RE c11_40 2 ∧
  Reg C c11_43 ∧
  R1 c11_43 0 1 55 (.move t12) ∧
  R1 c11_43 1 2 6 (.assign (.const (.slice none 0 0))) ∧
  R1 c11_43 2 3 7 (.assign t55) ∧
  RE c11_43 3 ∧
  Seq C c11_42 c11_43 .ret ∧
  Cond C c11_41 t54 c11_42 .skip ∧
  Seq C c11_39 c11_40 c11_41 ∧
  Reg C c11_46 ∧
  R1 c11_46 0 1 56 (.move t11) ∧
  R1 c11_46 1 2 57 (.call ⟨.value (.func 18), #[t56], #[23]⟩) ∧
  R1 c11_46 2 3 58 (.binOp .neq 3 t57 (.const (.int .i64 0)) 3) ∧
  RE c11_46 3 ∧
  Reg C c11_49 ∧
  R1 c11_49 0 1 6 (.assign (.const (.slice none 0 0))) ∧
  R1 c11_49 1 2 7 (.assign (.const (.int .i64 14))) ∧
  RE c11_49 2 ∧
  Seq C c11_48 c11_49 .ret ∧
  Cond C c11_47 t58 c11_48 .skip ∧
  Seq C c11_45 c11_46 c11_47 ∧
  Reg C c11_51 ∧
  R1 c11_51 0 1 59 (.move t11) ∧
  R1 c11_51 1 2 6 (.assign t59) ∧
  R1 c11_51 2 3 7 (.assign (.const (.int .i64 0))) ∧
  RE c11_51 3 ∧
  Seq C c11_50 c11_51 .ret ∧
  Seq C c11_44 c11_45 c11_50 ∧
  Seq C c11_38 c11_39 c11_44 ∧
  Seq C c11_36 c11_37 c11_38 ∧
  Seq C c11_17 c11_18 c11_36 ∧
  Seq C c11_11 c11_12 c11_17 ∧
  Seq C c11_5 c11_6 c11_11 ∧
  Seq C c11_3 c11_4 c11_5 ∧
  Seq C c11_1 c11_2 c11_3 :=
  ⟨reg_mk rfl, row1 rfl, row1 rfl, row1 rfl, rowE rfl, reg_mk rfl, row1 rfl, row1 rfl, row1 rfl, row1 rfl, rowE rfl, reg_mk rfl, row1 rfl, row1 rfl, rowE rfl, reg_mk rfl, row1 rfl, row1 rfl, row1 rfl, rowE rfl, seq_mk rfl, cond_mk rfl, seq_mk rfl, reg_mk rfl, row1 rfl, row1 rfl, row1 rfl, row1 rfl, row1 rfl, row1 rfl, rowE rfl, reg_mk rfl, row1 rfl, row1 rfl, rowE rfl, seq_mk rfl, cond_mk rfl, seq_mk rfl, reg_mk rfl, row1 rfl, rowE rfl, reg_mk rfl, row1 rfl, row1 rfl, row1 rfl, row1 rfl, rowE rfl, cond_mk rfl, seq_mk rfl, reg_mk rfl, row1 rfl, row1 rfl, row1 rfl, row1 rfl, row1 rfl, row1 rfl, rowE rfl, reg_mk rfl, row1 rfl, row1 rfl, rowE rfl, reg_mk rfl, row1 rfl, row1 rfl, row1 rfl, rowE rfl, seq_mk rfl, cond_mk rfl, seq_mk rfl, seq_mk rfl, blk_mk rfl, reg_mk rfl, row1 rfl, row1 rfl, row1 rfl, rowE rfl, seq_mk rfl, seq_mk rfl, lp_mk rfl, blk_mk rfl, seq_mk rfl, draw_mk rfl, dow1 rfl, dow1 rfl, dow1 rfl, dow1 rfl, dow1 rfl, dow1 rfl, dow1 rfl, dow1 rfl, dow1 rfl, dow1 rfl, dow1 rfl, dow1 rfl, dow1 rfl, dow1 rfl, dow1 rfl, dow1 rfl, dowE rfl, reg_mk rfl, row1 rfl, row1 rfl, rowE rfl, reg_mk rfl, row1 rfl, row1 rfl, row1 rfl, rowE rfl, seq_mk rfl, cond_mk rfl, seq_mk rfl, reg_mk rfl, row1 rfl, row1 rfl, row1 rfl, rowE rfl, reg_mk rfl, row1 rfl, row1 rfl, rowE rfl, seq_mk rfl, cond_mk rfl, seq_mk rfl, reg_mk rfl, row1 rfl, row1 rfl, row1 rfl, rowE rfl, seq_mk rfl, seq_mk rfl, seq_mk rfl, seq_mk rfl, seq_mk rfl, seq_mk rfl, seq_mk rfl, seq_mk rfl, seq_mk rfl⟩
theorem body11 : Try.f11.body = some c11_1 := rfl
/-! fluxion/fluxionref12.Lists -/
noncomputable def c12_1 : Code := (Try.f12.body).getD .skip
noncomputable def c12_2 : Code := kid c12_1 0
noncomputable def c12_3 : Code := kid c12_1 1
noncomputable def c12_4 : Code := kid c12_3 0
noncomputable def c12_5 : Code := kid c12_3 1
noncomputable def c12_6 : Code := kid c12_5 0
noncomputable def c12_7 : Code := kid c12_6 0
noncomputable def c12_8 : Code := kid c12_6 1
noncomputable def c12_9 : Code := kid c12_8 0
noncomputable def c12_10 : Code := kid c12_9 0
noncomputable def c12_11 : Code := kid c12_10 0
noncomputable def c12_12 : Code := kid c12_11 0
noncomputable def c12_13 : Code := kid c12_11 1
noncomputable def c12_14 : Code := kid c12_10 1
noncomputable def c12_15 : Code := kid c12_14 0
noncomputable def c12_16 : Code := kid c12_15 0
noncomputable def c12_17 : Code := kid c12_14 1
noncomputable def c12_18 : Code := kid c12_5 1
noncomputable def c12_19 : Code := kid c12_18 0
@[go_sem] theorem w12 : Reg C c12_2 ∧
  R1 c12_2 0 1 2 (.assign (.const (.slice none 0 0))) ∧
  RE c12_2 1 ∧
  Reg C c12_4 ∧
  R1 c12_4 0 1 3 (.assign (.const (.slice none 0 0))) ∧
  RE c12_4 1 ∧
  Reg C c12_7 ∧
  R1 c12_7 0 1 4 (.assign (.const (.int .i64 0))) ∧
  RE c12_7 1 ∧
  Reg C c12_12 ∧
  R1 c12_12 0 1 5 (.move t4) ∧
  R1 c12_12 1 2 6 (.move t0) ∧
  R1 c12_12 2 3 7 (.call ⟨.builtin .len, #[t6], #[26]⟩) ∧
  R1 c12_12 3 4 8 (.binOp .lss 3 t5 t7 3) ∧
  RE c12_12 4 ∧
  Cond C c12_13 t8 .skip (.exit 0) ∧
  Seq C c12_11 c12_12 c12_13 ∧
  Reg C c12_16 ∧
  R1 c12_16 0 1 11 (.move t3) ∧
  R1 c12_16 1 2 12 (.move t0) ∧
  R1 c12_16 2 3 13 (.move t4) ∧
  R1 c12_16 3 4 14 (.indexAddr 26 t12 t13) ∧
  R1 c12_16 4 5 15 (.load 28 t14) ∧
  R1 c12_16 5 6 16 (.buildSlice 34 1 #[(0, t15)]) ∧
  R1 c12_16 6 7 17 (.call ⟨.builtin .append, #[t11, t16], #[34, 34]⟩) ∧
  R1 c12_16 7 8 3 (.assign t17) ∧
  RE c12_16 8 ∧
  Blk C c12_15 1 c12_16 ∧
  Reg C c12_17 ∧
  R1 c12_17 0 1 9 (.move t4) ∧
  R1 c12_17 1 2 10 (.binOp .add 3 t9 (.const (.int .i64 1)) 3) ∧
  R1 c12_17 2 3 4 (.assign t10) ∧
  RE c12_17 3 ∧
  Seq C c12_14 c12_15 c12_17 ∧
  Seq C c12_10 c12_11 c12_14 ∧
  Lp C c12_9 c12_10 ∧
  Blk C c12_8 0 c12_9 ∧
  Seq C c12_6 c12_7 c12_8 ∧
  Reg C c12_19 ∧
  R1 c12_19 0 1 18 (.move t3) ∧
  R1 c12_19 1 2 2 (.assign t18) ∧
  RE c12_19 2 ∧
  Seq C c12_18 c12_19 .ret ∧
  Seq C c12_5 c12_6 c12_18 ∧
  Seq C c12_3 c12_4 c12_5 ∧
  Seq C c12_1 c12_2 c12_3 :=
  ⟨reg_mk rfl, row1 rfl, rowE rfl, reg_mk rfl, row1 rfl, rowE rfl, reg_mk rfl, row1 rfl, rowE rfl, reg_mk rfl, row1 rfl, row1 rfl, row1 rfl, row1 rfl, rowE rfl, cond_mk rfl, seq_mk rfl, reg_mk rfl, row1 rfl, row1 rfl, row1 rfl, row1 rfl, row1 rfl, row1 rfl, row1 rfl, row1 rfl, rowE rfl, blk_mk rfl, reg_mk rfl, row1 rfl, row1 rfl, row1 rfl, rowE rfl, seq_mk rfl, seq_mk rfl, lp_mk rfl, blk_mk rfl, seq_mk rfl, reg_mk rfl, row1 rfl, row1 rfl, rowE rfl, seq_mk rfl, seq_mk rfl, seq_mk rfl, seq_mk rfl⟩
theorem body12 : Try.f12.body = some c12_1 := rfl
end Go.Proofs.Ytlomgfdepllanaa
end

section
set_option maxRecDepth 100000
namespace Go.Proofs.Ytlomgfdepllanaa
open Go Go.Bv
/-! fluxion/op.no -/
noncomputable def c70_1 : Code := (Try.f70.body).getD .skip
noncomputable def c70_2 : Code := kid c70_1 0
noncomputable def c70_3 : Code := kid c70_1 1
noncomputable def c70_4 : Code := kid c70_3 0
@[go_sem] theorem w70 : Reg C c70_2 ∧
  R1 c70_2 0 1 2 (.assign (.const (.bool false))) ∧
  RE c70_2 1 ∧
  Reg C c70_4 ∧
  R1 c70_4 0 1 3 (.move t0) ∧
  R1 c70_4 1 2 4 (.call ⟨.builtin .len, #[t3], #[23]⟩) ∧
  R1 c70_4 2 3 5 (.binOp .eql 3 t4 (.const (.int .i64 0)) 3) ∧
  R1 c70_4 3 4 2 (.assign t5) ∧
  RE c70_4 4 ∧
  Seq C c70_3 c70_4 .ret ∧
  Seq C c70_1 c70_2 c70_3 :=
  ⟨reg_mk rfl, row1 rfl, rowE rfl, reg_mk rfl, row1 rfl, row1 rfl, row1 rfl, row1 rfl, rowE rfl, seq_mk rfl, seq_mk rfl⟩
theorem body70 : Try.f70.body = some c70_1 := rfl
/-! fluxion/op.one -/
noncomputable def c71_1 : Code := (Try.f71.body).getD .skip
noncomputable def c71_2 : Code := kid c71_1 0
noncomputable def c71_3 : Code := kid c71_1 1
noncomputable def c71_4 : Code := kid c71_3 0
@[go_sem] theorem w71 : Reg C c71_2 ∧
  R1 c71_2 0 1 1 (.box 3 t0) ∧
  R1 c71_2 1 2 2 (.assign (.const .nilFunc)) ∧
  RE c71_2 2 ∧
  Reg C c71_4 ∧
  R1 c71_4 0 1 3 (.makeFunc (.func 80) #[] #[t1]) ∧
  R1 c71_4 1 2 2 (.assign t3) ∧
  RE c71_4 2 ∧
  Seq C c71_3 c71_4 .ret ∧
  Seq C c71_1 c71_2 c71_3 :=
  ⟨reg_mk rfl, row1 rfl, row1 rfl, rowE rfl, reg_mk rfl, row1 rfl, row1 rfl, rowE rfl, seq_mk rfl, seq_mk rfl⟩
theorem body71 : Try.f71.body = some c71_1 := rfl
/-! fluxion/op.one$1 -/
noncomputable def c80_1 : Code := (Try.f80.body).getD .skip
noncomputable def c80_2 : Code := kid c80_1 0
noncomputable def c80_3 : Code := kid c80_1 1
noncomputable def c80_4 : Code := kid c80_3 0
@[go_sem] theorem w80 : Reg C c80_2 ∧
  R1 c80_2 0 1 3 (.assign (.const (.bool false))) ∧
  RE c80_2 1 ∧
  Draw C c80_4 ∧
  D1 c80_4 0 1 4 (.move t0) ∧
  D1 c80_4 1 2 5 (.call ⟨.builtin .len, #[t4], #[23]⟩) ∧
  D1 c80_4 2 3 6 (.binOp .eql 3 t5 (.const (.int .i64 1)) 3) ∧
  D1 c80_4 3 4 7 (.move t6) ∧
  DG c80_4 4 5 (some 8) (.move t0) 7 true ∧
  DG c80_4 5 6 (some 9) (.indexAddr 23 t8 (.const (.int .i64 0))) 7 true ∧
  DG c80_4 6 7 (some 10) (.load 3 t9) 7 true ∧
  DG c80_4 7 8 (some 11) (.binOp .geq 3 t10 (.const (.int .i64 0)) 3) 7 true ∧
  D1 c80_4 8 9 12 (.pick t7 t11 (.const (.bool false))) ∧
  D1 c80_4 9 10 13 (.move t12) ∧
  DG c80_4 10 11 (some 14) (.move t0) 13 true ∧
  DG c80_4 11 12 (some 15) (.indexAddr 23 t14 (.const (.int .i64 0))) 13 true ∧
  DG c80_4 12 13 (some 16) (.load 3 t15) 13 true ∧
  DG c80_4 13 14 (some 17) (.load 3 t1) 13 true ∧
  DG c80_4 14 15 (some 18) (.binOp .leq 3 t16 t17 3) 13 true ∧
  D1 c80_4 15 16 19 (.pick t13 t18 (.const (.bool false))) ∧
  D1 c80_4 16 17 3 (.assign t19) ∧
  DE c80_4 17 ∧
  Seq C c80_3 c80_4 .ret ∧
  Seq C c80_1 c80_2 c80_3 :=
  ⟨reg_mk rfl, row1 rfl, rowE rfl, draw_mk rfl, dow1 rfl, dow1 rfl, dow1 rfl, dow1 rfl, dowG rfl rfl, dowG rfl rfl, dowG rfl rfl, dowG rfl rfl, dow1 rfl, dow1 rfl, dowG rfl rfl, dowG rfl rfl, dowG rfl rfl, dowG rfl rfl, dowG rfl rfl, dow1 rfl, dow1 rfl, dowE rfl, seq_mk rfl, seq_mk rfl⟩
theorem body80 : Try.f80.body = some c80_1 := rfl
/-! fluxion/op.reduced -/
noncomputable def c72_1 : Code := (Try.f72.body).getD .skip
noncomputable def c72_2 : Code := kid c72_1 0
noncomputable def c72_3 : Code := kid c72_1 1
noncomputable def c72_4 : Code := kid c72_3 0
noncomputable def c72_5 : Code := kid c72_4 0
noncomputable def c72_6 : Code := kid c72_4 1
noncomputable def c72_7 : Code := kid c72_6 0
noncomputable def c72_8 : Code := kid c72_7 0
noncomputable def c72_9 : Code := kid c72_3 1
noncomputable def c72_10 : Code := kid c72_9 0
noncomputable def c72_11 : Code := kid c72_9 1
noncomputable def c72_12 : Code := kid c72_11 0
noncomputable def c72_13 : Code := kid c72_12 0
noncomputable def c72_14 : Code := kid c72_13 0
noncomputable def c72_15 : Code := kid c72_14 0
noncomputable def c72_16 : Code := kid c72_15 0
noncomputable def c72_17 : Code := kid c72_15 1
noncomputable def c72_18 : Code := kid c72_14 1
noncomputable def c72_19 : Code := kid c72_18 0
noncomputable def c72_20 : Code := kid c72_11 1
noncomputable def c72_21 : Code := kid c72_20 0
@[go_sem] theorem w72 : Reg C c72_2 ∧
  R1 c72_2 0 1 2 (.assign (.const (.bool false))) ∧
  RE c72_2 1 ∧
  Reg C c72_5 ∧
  R1 c72_5 0 1 5 (.move t0) ∧
  R1 c72_5 1 2 6 (.call ⟨.builtin .len, #[t5], #[23]⟩) ∧
  R1 c72_5 2 3 7 (.binOp .neq 3 t6 (.const (.int .i64 2)) 3) ∧
  R1 c72_5 3 4 8 (.move t7) ∧
  RG c72_5 4 5 (some 9) (.move t0) 8 false ∧
  RG c72_5 5 6 (some 10) (.indexAddr 23 t9 (.const (.int .i64 1))) 8 false ∧
  RG c72_5 6 7 (some 11) (.load 3 t10) 8 false ∧
  RG c72_5 7 8 (some 12) (.binOp .lss 3 t11 (.const (.int .i64 1)) 3) 8 false ∧
  R1 c72_5 8 9 13 (.pick t8 (.const (.bool true)) t12) ∧
  RE c72_5 9 ∧
  Reg C c72_8 ∧
  R1 c72_8 0 1 2 (.assign (.const (.bool false))) ∧
  RE c72_8 1 ∧
  Seq C c72_7 c72_8 .ret ∧
  Cond C c72_6 t13 c72_7 .skip ∧
  Seq C c72_4 c72_5 c72_6 ∧
  Draw C c72_10 ∧
  D1 c72_10 0 1 14 (.move t0) ∧
  D1 c72_10 1 2 15 (.indexAddr 23 t14 (.const (.int .i64 0))) ∧
  D1 c72_10 2 3 16 (.load 3 t15) ∧
  D1 c72_10 3 4 17 (.move t0) ∧
  D1 c72_10 4 5 18 (.indexAddr 23 t17 (.const (.int .i64 0))) ∧
  D1 c72_10 5 6 19 (.load 3 t18) ∧
  D1 c72_10 6 7 20 (.unOp .neg 3 t19) ∧
  D1 c72_10 7 8 21 (.call ⟨.builtin .max, #[t16, t20], #[3, 3]⟩) ∧
  D1 c72_10 8 9 22 (.move t0) ∧
  D1 c72_10 9 10 23 (.indexAddr 23 t22 (.const (.int .i64 1))) ∧
  D1 c72_10 10 11 24 (.load 3 t23) ∧
  D1 c72_10 11 12 3 (.assign t21) ∧
  D1 c72_10 12 13 4 (.assign t24) ∧
  DE c72_10 13 ∧
  Reg C c72_16 ∧
  R1 c72_16 0 1 25 (.move t4) ∧
  R1 c72_16 1 2 26 (.binOp .gtr 3 t25 (.const (.int .i64 0)) 3) ∧
  RE c72_16 2 ∧
  Cond C c72_17 t26 .skip (.exit 0) ∧
  Seq C c72_15 c72_16 c72_17 ∧
  Draw C c72_19 ∧
  D1 c72_19 0 1 27 (.move t4) ∧
  D1 c72_19 1 2 28 (.move t3) ∧
  D1 c72_19 2 3 29 (.move t4) ∧
  D1 c72_19 3 4 30 (.binOp .rem 3 t28 t29 3) ∧
  D1 c72_19 4 5 3 (.assign t27) ∧
  D1 c72_19 5 6 4 (.assign t30) ∧
  DE c72_19 6 ∧
  Blk C c72_18 1 c72_19 ∧
  Seq C c72_14 c72_15 c72_18 ∧
  Lp C c72_13 c72_14 ∧
  Blk C c72_12 0 c72_13 ∧
  Reg C c72_21 ∧
  R1 c72_21 0 1 31 (.move t3) ∧
  R1 c72_21 1 2 32 (.binOp .eql 3 t31 (.const (.int .i64 1)) 3) ∧
  R1 c72_21 2 3 2 (.assign t32) ∧
  RE c72_21 3 ∧
  Seq C c72_20 c72_21 .ret ∧
  Seq C c72_11 c72_12 c72_20 ∧
  Seq C c72_9 c72_10 c72_11 ∧
  Seq C c72_3 c72_4 c72_9 ∧
  Seq C c72_1 c72_2 c72_3 :=
  ⟨reg_mk rfl, row1 rfl, rowE rfl, reg_mk rfl, row1 rfl, row1 rfl, row1 rfl, row1 rfl, rowG rfl rfl, rowG rfl rfl, rowG rfl rfl, rowG rfl rfl, row1 rfl, rowE rfl, reg_mk rfl, row1 rfl, rowE rfl, seq_mk rfl, cond_mk rfl, seq_mk rfl, draw_mk rfl, dow1 rfl, dow1 rfl, dow1 rfl, dow1 rfl, dow1 rfl, dow1 rfl, dow1 rfl, dow1 rfl, dow1 rfl, dow1 rfl, dow1 rfl, dow1 rfl, dow1 rfl, dowE rfl, reg_mk rfl, row1 rfl, row1 rfl, rowE rfl, cond_mk rfl, seq_mk rfl, draw_mk rfl, dow1 rfl, dow1 rfl, dow1 rfl, dow1 rfl, dow1 rfl, dow1 rfl, dowE rfl, blk_mk rfl, seq_mk rfl, lp_mk rfl, blk_mk rfl, reg_mk rfl, row1 rfl, row1 rfl, row1 rfl, rowE rfl, seq_mk rfl, seq_mk rfl, seq_mk rfl, seq_mk rfl, seq_mk rfl⟩
theorem body72 : Try.f72.body = some c72_1 := rfl
/-! fluxion/op.dims -/
noncomputable def c74_1 : Code := (Try.f74.body).getD .skip
noncomputable def c74_2 : Code := kid c74_1 0
noncomputable def c74_3 : Code := kid c74_1 1
noncomputable def c74_4 : Code := kid c74_3 0
@[go_sem] theorem w74 : Reg C c74_2 ∧
  R1 c74_2 0 1 2 (.assign (.const (.bool false))) ∧
  RE c74_2 1 ∧
  Reg C c74_4 ∧
  R1 c74_4 0 1 3 (.move t0) ∧
  R1 c74_4 1 2 4 (.call ⟨.value (.func 23), #[t3], #[28]⟩) ∧
  R1 c74_4 2 3 5 (.binOp .eql 29 t4 (.const (.int .i64 0)) 29) ∧
  R1 c74_4 3 4 2 (.assign t5) ∧
  RE c74_4 4 ∧
  Seq C c74_3 c74_4 .ret ∧
  Seq C c74_1 c74_2 c74_3 :=
  ⟨reg_mk rfl, row1 rfl, rowE rfl, reg_mk rfl, row1 rfl, row1 rfl, row1 rfl, row1 rfl, rowE rfl, seq_mk rfl, seq_mk rfl⟩
theorem body74 : Try.f74.body = some c74_1 := rfl
/-! fluxion/op.rising -/
noncomputable def c75_1 : Code := (Try.f75.body).getD .skip
noncomputable def c75_2 : Code := kid c75_1 0
noncomputable def c75_3 : Code := kid c75_1 1
noncomputable def c75_4 : Code := kid c75_3 0
@[go_sem] theorem w75 : Reg C c75_2 ∧
  R1 c75_2 0 1 2 (.assign (.const (.bool false))) ∧
  RE c75_2 1 ∧
  Reg C c75_4 ∧
  R1 c75_4 0 1 3 (.move t0) ∧
  R1 c75_4 1 2 4 (.call ⟨.value (.func 42), #[t3, .const (.int .i64 4)], #[23, 3]⟩) ∧
  R1 c75_4 2 3 5 (.binOp .eql 29 t4 (.const (.int .i64 0)) 29) ∧
  R1 c75_4 3 4 2 (.assign t5) ∧
  RE c75_4 4 ∧
  Seq C c75_3 c75_4 .ret ∧
  Seq C c75_1 c75_2 c75_3 :=
  ⟨reg_mk rfl, row1 rfl, rowE rfl, reg_mk rfl, row1 rfl, row1 rfl, row1 rfl, row1 rfl, rowE rfl, seq_mk rfl, seq_mk rfl⟩
theorem body75 : Try.f75.body = some c75_1 := rfl
/-! fluxion/op.pairs -/
noncomputable def c76_1 : Code := (Try.f76.body).getD .skip
noncomputable def c76_2 : Code := kid c76_1 0
noncomputable def c76_3 : Code := kid c76_1 1
noncomputable def c76_4 : Code := kid c76_3 0
@[go_sem] theorem w76 : Reg C c76_2 ∧
  R1 c76_2 0 1 1 (.box 79 t0) ∧
  R1 c76_2 1 2 2 (.assign (.const .nilFunc)) ∧
  RE c76_2 2 ∧
  Reg C c76_4 ∧
  R1 c76_4 0 1 3 (.makeFunc (.func 82) #[] #[t1]) ∧
  R1 c76_4 1 2 2 (.assign t3) ∧
  RE c76_4 2 ∧
  Seq C c76_3 c76_4 .ret ∧
  Seq C c76_1 c76_2 c76_3 :=
  ⟨reg_mk rfl, row1 rfl, row1 rfl, rowE rfl, reg_mk rfl, row1 rfl, row1 rfl, rowE rfl, seq_mk rfl, seq_mk rfl⟩
theorem body76 : Try.f76.body = some c76_1 := rfl
/-! fluxion/op.pairs$1 -/
noncomputable def c82_1 : Code := (Try.f82.body).getD .skip
noncomputable def c82_2 : Code := kid c82_1 0
noncomputable def c82_3 : Code := kid c82_1 1
noncomputable def c82_4 : Code := kid c82_3 0
noncomputable def c82_5 : Code := kid c82_4 0
noncomputable def c82_6 : Code := kid c82_4 1
noncomputable def c82_7 : Code := kid c82_6 0
noncomputable def c82_8 : Code := kid c82_7 0
noncomputable def c82_9 : Code := kid c82_3 1
noncomputable def c82_10 : Code := kid c82_9 0
noncomputable def c82_11 : Code := kid c82_10 0
noncomputable def c82_12 : Code := kid c82_10 1
noncomputable def c82_13 : Code := kid c82_12 0
noncomputable def c82_14 : Code := kid c82_13 0
noncomputable def c82_15 : Code := kid c82_14 0
noncomputable def c82_16 : Code := kid c82_15 0
noncomputable def c82_17 : Code := kid c82_15 1
noncomputable def c82_18 : Code := kid c82_14 1
noncomputable def c82_19 : Code := kid c82_18 0
noncomputable def c82_20 : Code := kid c82_19 0
noncomputable def c82_21 : Code := kid c82_20 0
noncomputable def c82_22 : Code := kid c82_20 1
noncomputable def c82_23 : Code := kid c82_22 0
noncomputable def c82_24 : Code := kid c82_23 0
noncomputable def c82_25 : Code := kid c82_18 1
noncomputable def c82_26 : Code := kid c82_9 1
noncomputable def c82_27 : Code := kid c82_26 0
@[go_sem] theorem w82 : Reg C c82_2 ∧
  R1 c82_2 0 1 3 (.assign (.const (.bool false))) ∧
  RE c82_2 1 ∧
  Reg C c82_5 ∧
  R1 c82_5 0 1 5 (.move t0) ∧
  R1 c82_5 1 2 6 (.call ⟨.builtin .len, #[t5], #[23]⟩) ∧
  R1 c82_5 2 3 7 (.binOp .rem 3 t6 (.const (.int .i64 2)) 3) ∧
  R1 c82_5 3 4 8 (.binOp .neq 3 t7 (.const (.int .i64 0)) 3) ∧
  R1 c82_5 4 5 9 (.move t8) ∧
  RG c82_5 5 6 (some 10) (.move t0) 9 false ∧
  RG c82_5 6 7 (some 11) (.call ⟨.builtin .len, #[t10], #[23]⟩) 9 false ∧
  RG c82_5 7 8 (some 12) (.binOp .gtr 3 t11 (.const (.int .i64 8)) 3) 9 false ∧
  R1 c82_5 8 9 13 (.pick t9 (.const (.bool true)) t12) ∧
  RE c82_5 9 ∧
  Reg C c82_8 ∧
  R1 c82_8 0 1 3 (.assign (.const (.bool false))) ∧
  RE c82_8 1 ∧
  Seq C c82_7 c82_8 .ret ∧
  Cond C c82_6 t13 c82_7 .skip ∧
  Seq C c82_4 c82_5 c82_6 ∧
  Reg C c82_11 ∧
  R1 c82_11 0 1 4 (.assign (.const (.int .i64 0))) ∧
  RE c82_11 1 ∧
  Reg C c82_16 ∧
  R1 c82_16 0 1 14 (.move t4) ∧
  R1 c82_16 1 2 15 (.move t0) ∧
  R1 c82_16 2 3 16 (.call ⟨.builtin .len, #[t15], #[23]⟩) ∧
  R1 c82_16 3 4 17 (.binOp .lss 3 t14 t16 3) ∧
  RE c82_16 4 ∧
  Cond C c82_17 t17 .skip (.exit 0) ∧
  Seq C c82_15 c82_16 c82_17 ∧
  Draw C c82_21 ∧
  D1 c82_21 0 1 20 (.load 79 t1) ∧
  D1 c82_21 1 2 21 (.move t0) ∧
  D1 c82_21 2 3 22 (.move t4) ∧
  D1 c82_21 3 4 23 (.indexAddr 23 t21 t22) ∧
  D1 c82_21 4 5 24 (.load 3 t23) ∧
  D1 c82_21 5 6 25 (.move t0) ∧
  D1 c82_21 6 7 26 (.move t4) ∧
  D1 c82_21 7 8 27 (.binOp .add 3 t26 (.const (.int .i64 1)) 3) ∧
  D1 c82_21 8 9 28 (.indexAddr 23 t25 t27) ∧
  D1 c82_21 9 10 29 (.load 3 t28) ∧
  D1 c82_21 10 11 30 (.call ⟨.value t20, #[t24, t29], #[3, 3]⟩) ∧
  D1 c82_21 11 12 31 (.unOp .not 4 t30) ∧
  DE c82_21 12 ∧
  Reg C c82_24 ∧
  R1 c82_24 0 1 3 (.assign (.const (.bool false))) ∧
  RE c82_24 1 ∧
  Seq C c82_23 c82_24 .ret ∧
  Cond C c82_22 t31 c82_23 .skip ∧
  Seq C c82_20 c82_21 c82_22 ∧
  Blk C c82_19 1 c82_20 ∧
  Reg C c82_25 ∧
  R1 c82_25 0 1 18 (.move t4) ∧
  R1 c82_25 1 2 19 (.binOp .add 3 t18 (.const (.int .i64 2)) 3) ∧
  R1 c82_25 2 3 4 (.assign t19) ∧
  RE c82_25 3 ∧
  Seq C c82_18 c82_19 c82_25 ∧
  Seq C c82_14 c82_15 c82_18 ∧
  Lp C c82_13 c82_14 ∧
  Blk C c82_12 0 c82_13 ∧
  Seq C c82_10 c82_11 c82_12 ∧
  Reg C c82_27 ∧
  R1 c82_27 0 1 3 (.assign (.const (.bool true))) ∧
  RE c82_27 1 ∧
  Seq C c82_26 c82_27 .ret ∧
  Seq C c82_9 c82_10 c82_26 ∧
  Seq C c82_3 c82_4 c82_9 ∧
  Seq C c82_1 c82_2 c82_3 :=
  ⟨reg_mk rfl, row1 rfl, rowE rfl, reg_mk rfl, row1 rfl, row1 rfl, row1 rfl, row1 rfl, row1 rfl, rowG rfl rfl, rowG rfl rfl, rowG rfl rfl, row1 rfl, rowE rfl, reg_mk rfl, row1 rfl, rowE rfl, seq_mk rfl, cond_mk rfl, seq_mk rfl, reg_mk rfl, row1 rfl, rowE rfl, reg_mk rfl, row1 rfl, row1 rfl, row1 rfl, row1 rfl, rowE rfl, cond_mk rfl, seq_mk rfl, draw_mk rfl, dow1 rfl, dow1 rfl, dow1 rfl, dow1 rfl, dow1 rfl, dow1 rfl, dow1 rfl, dow1 rfl, dow1 rfl, dow1 rfl, dow1 rfl, dow1 rfl, dowE rfl, reg_mk rfl, row1 rfl, rowE rfl, seq_mk rfl, cond_mk rfl, seq_mk rfl, blk_mk rfl, reg_mk rfl, row1 rfl, row1 rfl, row1 rfl, rowE rfl, seq_mk rfl, seq_mk rfl, lp_mk rfl, blk_mk rfl, seq_mk rfl, reg_mk rfl, row1 rfl, rowE rfl, seq_mk rfl, seq_mk rfl, seq_mk rfl, seq_mk rfl⟩
theorem body82 : Try.f82.body = some c82_1 := rfl
/-! fluxion/op.cut -/
noncomputable def c77_1 : Code := (Try.f77.body).getD .skip
noncomputable def c77_2 : Code := kid c77_1 0
noncomputable def c77_3 : Code := kid c77_1 1
noncomputable def c77_4 : Code := kid c77_3 0
@[go_sem] theorem w77 : Reg C c77_2 ∧
  R1 c77_2 0 1 4 (.assign (.const (.bool false))) ∧
  RE c77_2 1 ∧
  Reg C c77_4 ∧
  R1 c77_4 0 1 5 (.move t0) ∧
  R1 c77_4 1 2 6 (.binOp .geq 3 t5 (.const (.int .i64 0)) 3) ∧
  R1 c77_4 2 3 7 (.move t6) ∧
  RG c77_4 3 4 (some 8) (.move t1) 7 true ∧
  RG c77_4 4 5 (some 9) (.move t0) 7 true ∧
  RG c77_4 5 6 (some 10) (.binOp .gtr 3 t8 t9 3) 7 true ∧
  R1 c77_4 6 7 11 (.pick t7 t10 (.const (.bool false))) ∧
  R1 c77_4 7 8 4 (.assign t11) ∧
  RE c77_4 8 ∧
  Seq C c77_3 c77_4 .ret ∧
  Seq C c77_1 c77_2 c77_3 :=
  ⟨reg_mk rfl, row1 rfl, rowE rfl, reg_mk rfl, row1 rfl, row1 rfl, row1 rfl, rowG rfl rfl, rowG rfl rfl, rowG rfl rfl, row1 rfl, row1 rfl, rowE rfl, seq_mk rfl, seq_mk rfl⟩
theorem body77 : Try.f77.body = some c77_1 := rfl
/-! fluxion/op.rim -/
noncomputable def c78_1 : Code := (Try.f78.body).getD .skip
noncomputable def c78_2 : Code := kid c78_1 0
noncomputable def c78_3 : Code := kid c78_1 1
noncomputable def c78_4 : Code := kid c78_3 0
@[go_sem] theorem w78 : Reg C c78_2 ∧
  R1 c78_2 0 1 4 (.assign (.const (.bool false))) ∧
  RE c78_2 1 ∧
  Reg C c78_4 ∧
  R1 c78_4 0 1 5 (.move t0) ∧
  R1 c78_4 1 2 6 (.move t1) ∧
  R1 c78_4 2 3 7 (.call ⟨.builtin .min, #[t5, t6], #[3, 3]⟩) ∧
  R1 c78_4 3 4 8 (.binOp .geq 3 t7 (.const (.int .i64 0)) 3) ∧
  R1 c78_4 4 5 4 (.assign t8) ∧
  RE c78_4 5 ∧
  Seq C c78_3 c78_4 .ret ∧
  Seq C c78_1 c78_2 c78_3 :=
  ⟨reg_mk rfl, row1 rfl, rowE rfl, reg_mk rfl, row1 rfl, row1 rfl, row1 rfl, row1 rfl, row1 rfl, rowE rfl, seq_mk rfl, seq_mk rfl⟩
theorem body78 : Try.f78.body = some c78_1 := rfl
/-! fluxion/op.table -/
noncomputable def c66_1 : Code := (Try.f66.body).getD .skip
noncomputable def c66_2 : Code := kid c66_1 0
noncomputable def c66_3 : Code := kid c66_1 1
noncomputable def c66_4 : Code := kid c66_3 0
@[go_sem] theorem w66 : Reg C c66_2 ∧
  R1 c66_2 0 1 0 (.assign (.const (.slice none 0 0))) ∧
  RE c66_2 1 ∧
  Reg C c66_4 ∧
  R1 c66_4 0 1 1 (.build 57 #[(0, .const (.int .i64 1)), (1, .const (.string { data := #[97, 100, 100] })), (2, .const (.int .i64 1)), (3, .const (.int .i64 3)), (4, .const (.int .i64 2)), (5, .const (.int .i64 2)), (6, .func 70), (7, .const (.int .i64 0))]) ∧
  R1 c66_4 1 2 2 (.build 57 #[(0, .const (.int .i64 2)), (1, .const (.string { data := #[115, 117, 98] })), (2, .const (.int .i64 1)), (3, .const (.int .i64 3)), (4, .const (.int .i64 2)), (5, .const (.int .i64 2)), (6, .func 70), (7, .const (.int .i64 0))]) ∧
  R1 c66_4 2 3 3 (.build 57 #[(0, .const (.int .i64 3)), (1, .const (.string { data := #[109, 117, 108] })), (2, .const (.int .i64 1)), (3, .const (.int .i64 3)), (4, .const (.int .i64 2)), (5, .const (.int .i64 2)), (6, .func 70), (7, .const (.int .i64 0))]) ∧
  R1 c66_4 3 4 4 (.build 57 #[(0, .const (.int .i64 4)), (1, .const (.string { data := #[100, 105, 118] })), (2, .const (.int .i64 1)), (3, .const (.int .i64 3)), (4, .const (.int .i64 2)), (5, .const (.int .i64 2)), (6, .func 70), (7, .const (.int .i64 0))]) ∧
  R1 c66_4 4 5 5 (.build 57 #[(0, .const (.int .i64 5)), (1, .const (.string { data := #[110, 101, 103] })), (2, .const (.int .i64 1)), (3, .const (.int .i64 3)), (4, .const (.int .i64 1)), (5, .const (.int .i64 1)), (6, .func 70), (7, .const (.int .i64 0))]) ∧
  R1 c66_4 5 6 6 (.call ⟨.value (.func 71), #[.const (.int .i64 16)], #[3]⟩) ∧
  R1 c66_4 6 7 7 (.build 57 #[(0, .const (.int .i64 6)), (1, .const (.string { data := #[112, 111, 119] })), (2, .const (.int .i64 1)), (3, .const (.int .i64 3)), (4, .const (.int .i64 1)), (5, .const (.int .i64 1)), (6, t6), (7, .const (.int .i64 1))]) ∧
  R1 c66_4 7 8 8 (.build 57 #[(0, .const (.int .i64 7)), (1, .const (.string { data := #[114, 101, 108, 117] })), (2, .const (.int .i64 1)), (3, .const (.int .i64 3)), (4, .const (.int .i64 1)), (5, .const (.int .i64 1)), (6, .func 70), (7, .const (.int .i64 0))]) ∧
  R1 c66_4 8 9 9 (.build 57 #[(0, .const (.int .i64 8)), (1, .const (.string { data := #[115, 116, 101, 112] })), (2, .const (.int .i64 3)), (3, .const (.int .i64 3)), (4, .const (.int .i64 1)), (5, .const (.int .i64 1)), (6, .func 70), (7, .const (.int .i64 0))]) ∧
  R1 c66_4 9 10 10 (.build 57 #[(0, .const (.int .i64 9)), (1, .const (.string { data := #[115, 99, 97, 108, 101] })), (2, .const (.int .i64 3)), (3, .const (.int .i64 3)), (4, .const (.int .i64 1)), (5, .const (.int .i64 1)), (6, .func 72), (7, .const (.int .i64 0))]) ∧
  R1 c66_4 10 11 11 (.build 57 #[(0, .const (.int .i64 10)), (1, .const (.string { data := #[109, 97, 116, 109, 117, 108] })), (2, .const (.int .i64 1)), (3, .const (.int .i64 3)), (4, .const (.int .i64 2)), (5, .const (.int .i64 2)), (6, .func 70), (7, .const (.int .i64 0))]) ∧
  R1 c66_4 11 12 12 (.build 57 #[(0, .const (.int .i64 11)), (1, .const (.string { data := #[116, 114, 97, 110, 115, 112, 111, 115, 101] })), (2, .const (.int .i64 1)), (3, .const (.int .i64 3)), (4, .const (.int .i64 1)), (5, .const (.int .i64 1)), (6, .func 73), (7, .const (.int .i64 1))]) ∧
  R1 c66_4 12 13 13 (.build 57 #[(0, .const (.int .i64 12)), (1, .const (.string { data := #[114, 101, 115, 104, 97, 112, 101] })), (2, .const (.int .i64 1)), (3, .const (.int .i64 3)), (4, .const (.int .i64 1)), (5, .const (.int .i64 1)), (6, .func 74), (7, .const (.int .i64 0))]) ∧
  R1 c66_4 13 14 14 (.build 57 #[(0, .const (.int .i64 13)), (1, .const (.string { data := #[98, 114, 111, 97, 100, 99, 97, 115, 116] })), (2, .const (.int .i64 1)), (3, .const (.int .i64 3)), (4, .const (.int .i64 1)), (5, .const (.int .i64 1)), (6, .func 74), (7, .const (.int .i64 0))]) ∧
  R1 c66_4 14 15 15 (.build 57 #[(0, .const (.int .i64 14)), (1, .const (.string { data := #[115, 117, 109] })), (2, .const (.int .i64 1)), (3, .const (.int .i64 3)), (4, .const (.int .i64 1)), (5, .const (.int .i64 1)), (6, .func 75), (7, .const (.int .i64 2))]) ∧
  R1 c66_4 15 16 16 (.call ⟨.value (.func 76), #[.func 77], #[79]⟩) ∧
  R1 c66_4 16 17 17 (.build 57 #[(0, .const (.int .i64 15)), (1, .const (.string { data := #[115, 108, 105, 99, 101] })), (2, .const (.int .i64 1)), (3, .const (.int .i64 3)), (4, .const (.int .i64 1)), (5, .const (.int .i64 1)), (6, t16), (7, .const (.int .i64 0))]) ∧
  R1 c66_4 17 18 18 (.call ⟨.value (.func 76), #[.func 78], #[79]⟩) ∧
  R1 c66_4 18 19 19 (.build 57 #[(0, .const (.int .i64 16)), (1, .const (.string { data := #[112, 97, 100] })), (2, .const (.int .i64 1)), (3, .const (.int .i64 3)), (4, .const (.int .i64 1)), (5, .const (.int .i64 1)), (6, t18), (7, .const (.int .i64 0))]) ∧
  R1 c66_4 19 20 20 (.call ⟨.value (.func 71), #[.const (.int .i64 3)], #[3]⟩) ∧
  R1 c66_4 20 21 21 (.build 57 #[(0, .const (.int .i64 17)), (1, .const (.string { data := #[99, 111, 110, 99, 97, 116] })), (2, .const (.int .i64 1)), (3, .const (.int .i64 3)), (4, .const (.int .i64 1)), (5, .const (.int .i64 8)), (6, t20), (7, .const (.int .i64 1))]) ∧
  R1 c66_4 21 22 22 (.build 57 #[(0, .const (.int .i64 18)), (1, .const (.string { data := #[115, 113, 117, 97, 114, 101] })), (2, .const (.int .i64 1)), (3, .const (.int .i64 1)), (4, .const (.int .i64 1)), (5, .const (.int .i64 1)), (6, .func 70), (7, .const (.int .i64 0))]) ∧
  R1 c66_4 22 23 23 (.build 57 #[(0, .const (.int .i64 19)), (1, .const (.string { data := #[103, 101, 109, 109] })), (2, .const (.int .i64 1)), (3, .const (.int .i64 2)), (4, .const (.int .i64 3)), (5, .const (.int .i64 3)), (6, .func 70), (7, .const (.int .i64 0))]) ∧
  R1 c66_4 23 24 24 (.build 57 #[(0, .const (.int .i64 20)), (1, .const (.string { data := #[109, 101, 97, 110] })), (2, .const (.int .i64 1)), (3, .const (.int .i64 2)), (4, .const (.int .i64 1)), (5, .const (.int .i64 1)), (6, .func 75), (7, .const (.int .i64 2))]) ∧
  R1 c66_4 24 25 25 (.buildSlice 91 20 #[(0, t1), (1, t2), (2, t3), (3, t4), (4, t5), (5, t7), (6, t8), (7, t9), (8, t10), (9, t11), (10, t12), (11, t13), (12, t14), (13, t15), (14, t17), (15, t19), (16, t21), (17, t22), (18, t23), (19, t24)]) ∧
  R1 c66_4 25 26 0 (.assign t25) ∧
  RE c66_4 26 ∧
  Seq C c66_3 c66_4 .ret ∧
  Seq C c66_1 c66_2 c66_3 :=
  ⟨reg_mk rfl, row1 rfl, rowE rfl, reg_mk rfl, row1 rfl, row1 rfl, row1 rfl, row1 rfl, row1 rfl, row1 rfl, row1 rfl, row1 rfl, row1 rfl, row1 rfl, row1 rfl, row1 rfl, row1 rfl, row1 rfl, row1 rfl, row1 rfl, row1 rfl, row1 rfl, row1 rfl, row1 rfl, row1 rfl, row1 rfl, row1 rfl, row1 rfl, row1 rfl, row1 rfl, rowE rfl, seq_mk rfl, seq_mk rfl⟩
theorem body66 : Try.f66.body = some c66_1 := rfl
/-! slices.IndexFunc[[]fluxion/op.row,fluxion/op.row] -/
noncomputable def c67_1 : Code := (Try.f67.body).getD .skip
noncomputable def c67_2 : Code := kid c67_1 0
noncomputable def c67_3 : Code := kid c67_1 1
noncomputable def c67_4 : Code := kid c67_3 0
noncomputable def c67_5 : Code := kid c67_4 0
noncomputable def c67_6 : Code := kid c67_4 1
noncomputable def c67_7 : Code := kid c67_6 0
noncomputable def c67_8 : Code := kid c67_7 0
noncomputable def c67_9 : Code := kid c67_8 0
noncomputable def c67_10 : Code := kid c67_8 1
noncomputable def c67_11 : Code := kid c67_10 0
noncomputable def c67_12 : Code := kid c67_10 1
noncomputable def c67_13 : Code := kid c67_12 0
noncomputable def c67_14 : Code := kid c67_13 0
noncomputable def c67_15 : Code := kid c67_14 0
noncomputable def c67_16 : Code := kid c67_14 1
noncomputable def c67_17 : Code := kid c67_16 0
noncomputable def c67_18 : Code := kid c67_16 1
noncomputable def c67_19 : Code := kid c67_18 0
noncomputable def c67_20 : Code := kid c67_19 0
noncomputable def c67_21 : Code := kid c67_12 1
noncomputable def c67_22 : Code := kid c67_3 1
noncomputable def c67_23 : Code := kid c67_22 0
@[go_sem] theorem w67 : Reg C c67_2 ∧
  R1 c67_2 0 1 4 (.assign (.const (.int .i64 0))) ∧
  RE c67_2 1 ∧
  Reg C c67_5 ∧
  R1 c67_5 0 1 6 (.move t0) ∧
  R1 c67_5 1 2 7 (.call ⟨.builtin .len, #[t6], #[91]⟩) ∧
  R1 c67_5 2 3 8 (.move (.const (.int .i64 0))) ∧
  RE c67_5 3 ∧
  Reg C c67_9 ∧
  R1 c67_9 0 1 9 (.binOp .lss 3 t8 t7 3) ∧
  RE c67_9 1 ∧
  Cond C c67_11 t9 .skip (.exit 0) ∧
  Reg C c67_15 ∧
  R1 c67_15 0 1 10 (.move t8) ∧
  R1 c67_15 1 2 5 (.assign t10) ∧
  RE c67_15 2 ∧
  Reg C c67_17 ∧
  R1 c67_17 0 1 11 (.move t1) ∧
  R1 c67_17 1 2 12 (.move t0) ∧
  R1 c67_17 2 3 13 (.move t5) ∧
  R1 c67_17 3 4 14 (.indexAddr 91 t12 t13) ∧
  R1 c67_17 4 5 15 (.load 57 t14) ∧
  R1 c67_17 5 6 16 (.call ⟨.value t11, #[t15], #[57]⟩) ∧
  RE c67_17 6 ∧
  Reg C c67_20 ∧
  R1 c67_20 0 1 17 (.move t5) ∧
  R1 c67_20 1 2 4 (.assign t17) ∧
  RE c67_20 2 ∧
  Seq C c67_19 c67_20 .ret ∧
  Cond C c67_18 t16 c67_19 .skip ∧
  Seq C c67_16 c67_17 c67_18 ∧
  Seq C c67_14 c67_15 c67_16 ∧
  Blk C c67_13 1 c67_14 ∧
  Reg C c67_21 ∧
  R1 c67_21 0 1 18 (.binOp .add 3 t8 (.const (.int .i64 1)) 3) ∧
  R1 c67_21 1 2 8 (.move t18) ∧
  RE c67_21 2 ∧
  Seq C c67_12 c67_13 c67_21 ∧
  Seq C c67_10 c67_11 c67_12 ∧
  Seq C c67_8 c67_9 c67_10 ∧
  Lp C c67_7 c67_8 ∧
  Blk C c67_6 0 c67_7 ∧
  Seq C c67_4 c67_5 c67_6 ∧
  Reg C c67_23 ∧
  R1 c67_23 0 1 4 (.assign (.const (.int .i64 (-1)))) ∧
  RE c67_23 1 ∧
  Seq C c67_22 c67_23 .ret ∧
  Seq C c67_3 c67_4 c67_22 ∧
  Seq C c67_1 c67_2 c67_3 :=
  ⟨reg_mk rfl, row1 rfl, rowE rfl, reg_mk rfl, row1 rfl, row1 rfl, row1 rfl, rowE rfl, reg_mk rfl, row1 rfl, rowE rfl, cond_mk rfl, reg_mk rfl, row1 rfl, row1 rfl, rowE rfl, reg_mk rfl, row1 rfl, row1 rfl, row1 rfl, row1 rfl, row1 rfl, row1 rfl, rowE rfl, reg_mk rfl, row1 rfl, row1 rfl, rowE rfl, seq_mk rfl, cond_mk rfl, seq_mk rfl, seq_mk rfl, blk_mk rfl, reg_mk rfl, row1 rfl, row1 rfl, rowE rfl, seq_mk rfl, seq_mk rfl, seq_mk rfl, lp_mk rfl, blk_mk rfl, seq_mk rfl, reg_mk rfl, row1 rfl, rowE rfl, seq_mk rfl, seq_mk rfl, seq_mk rfl⟩
theorem body67 : Try.f67.body = some c67_1 := rfl
/-! fluxion/op.find -/
noncomputable def c56_1 : Code := (Try.f56.body).getD .skip
noncomputable def c56_2 : Code := kid c56_1 0
noncomputable def c56_3 : Code := kid c56_1 1
noncomputable def c56_4 : Code := kid c56_3 0
noncomputable def c56_5 : Code := kid c56_3 1
noncomputable def c56_6 : Code := kid c56_5 0
noncomputable def c56_7 : Code := kid c56_5 1
noncomputable def c56_8 : Code := kid c56_7 0
noncomputable def c56_9 : Code := kid c56_8 0
noncomputable def c56_10 : Code := kid c56_8 1
noncomputable def c56_11 : Code := kid c56_10 0
noncomputable def c56_12 : Code := kid c56_11 0
noncomputable def c56_13 : Code := kid c56_7 1
noncomputable def c56_14 : Code := kid c56_13 0
@[go_sem] theorem w56 : Reg C c56_2 ∧
  R1 c56_2 0 1 2 (.alloc 57) ∧
  R1 c56_2 1 2 3 (.assign (.const (.bool false))) ∧
  RE c56_2 2 ∧
  Reg C c56_4 ∧
  R1 c56_4 0 1 6 (.call ⟨.value (.func 66), #[], #[]⟩) ∧
  R1 c56_4 1 2 4 (.assign t6) ∧
  RE c56_4 2 ∧
  Reg C c56_6 ∧
  R1 c56_6 0 1 7 (.move t4) ∧
  R1 c56_6 1 2 8 (.move t0) ∧
  R1 c56_6 2 3 9 (.call ⟨.value (.func 67), #[t7, t8], #[91, 81]⟩) ∧
  R1 c56_6 3 4 5 (.assign t9) ∧
  RE c56_6 4 ∧
  Reg C c56_9 ∧
  R1 c56_9 0 1 10 (.move t5) ∧
  R1 c56_9 1 2 11 (.binOp .lss 3 t10 (.const (.int .i64 0)) 3) ∧
  RE c56_9 2 ∧
  Reg C c56_12 ∧
  R1 c56_12 0 1 12 (.build 57 #[]) ∧
  R0 c56_12 1 2 (.store 57 t2 t12) ∧
  R1 c56_12 2 3 3 (.assign (.const (.bool false))) ∧
  RE c56_12 3 ∧
  Seq C c56_11 c56_12 .ret ∧
  Cond C c56_10 t11 c56_11 .skip ∧
  Seq C c56_8 c56_9 c56_10 ∧
  Reg C c56_14 ∧
  R1 c56_14 0 1 13 (.move t4) ∧
  R1 c56_14 1 2 14 (.move t5) ∧
  R1 c56_14 2 3 15 (.indexAddr 91 t13 t14) ∧
  R1 c56_14 3 4 16 (.load 57 t15) ∧
  R0 c56_14 4 5 (.store 57 t2 t16) ∧
  R1 c56_14 5 6 3 (.assign (.const (.bool true))) ∧
  RE c56_14 6 ∧
  Seq C c56_13 c56_14 .ret ∧
  Seq C c56_7 c56_8 c56_13 ∧
  Seq C c56_5 c56_6 c56_7 ∧
  Seq C c56_3 c56_4 c56_5 ∧
  Seq C c56_1 c56_2 c56_3 :=
  ⟨reg_mk rfl, row1 rfl, row1 rfl, rowE rfl, reg_mk rfl, row1 rfl, row1 rfl, rowE rfl, reg_mk rfl, row1 rfl, row1 rfl, row1 rfl, row1 rfl, rowE rfl, reg_mk rfl, row1 rfl, row1 rfl, rowE rfl, reg_mk rfl, row1 rfl, row0 rfl, row1 rfl, rowE rfl, seq_mk rfl, cond_mk rfl, seq_mk rfl, reg_mk rfl, row1 rfl, row1 rfl, row1 rfl, row1 rfl, row0 rfl, row1 rfl, rowE rfl, seq_mk rfl, seq_mk rfl, seq_mk rfl, seq_mk rfl, seq_mk rfl⟩
theorem body56 : Try.f56.body = some c56_1 := rfl
/-! fluxion/op.of -/
noncomputable def c30_1 : Code := (Try.f30.body).getD .skip
noncomputable def c30_2 : Code := kid c30_1 0
noncomputable def c30_3 : Code := kid c30_1 1
noncomputable def c30_4 : Code := kid c30_3 0
@[go_sem] theorem w30 : Reg C c30_2 ∧
  R1 c30_2 0 1 1 (.box 22 t0) ∧
  R1 c30_2 1 2 2 (.alloc 57) ∧
  R1 c30_2 2 3 3 (.assign (.const (.bool false))) ∧
  RE c30_2 3 ∧
  Reg C c30_4 ∧
  R1 c30_4 0 1 4 (.makeFunc (.func 57) #[] #[t1]) ∧
  R1 c30_4 1 2 5 (.call ⟨.value (.func 56), #[t4], #[81]⟩) ∧
  R1 c30_4 2 3 6 (.extract t5 0) ∧
  R1 c30_4 3 4 7 (.extract t5 1) ∧
  R0 c30_4 4 5 (.store 57 t2 t6) ∧
  R1 c30_4 5 6 3 (.assign t7) ∧
  RE c30_4 6 ∧
  Seq C c30_3 c30_4 .ret ∧
  Seq C c30_1 c30_2 c30_3 :=
  ⟨reg_mk rfl, row1 rfl, row1 rfl, row1 rfl, rowE rfl, reg_mk rfl, row1 rfl, row1 rfl, row1 rfl, row1 rfl, row0 rfl, row1 rfl, rowE rfl, seq_mk rfl, seq_mk rfl⟩
theorem body30 : Try.f30.body = some c30_1 := rfl
/-! fluxion/op.of$1 -/
noncomputable def c57_1 : Code := (Try.f57.body).getD .skip
noncomputable def c57_2 : Code := kid c57_1 0
noncomputable def c57_3 : Code := kid c57_1 1
noncomputable def c57_4 : Code := kid c57_3 0
@[go_sem] theorem w57 : Reg C c57_2 ∧
  R1 c57_2 0 1 2 (.box 57 t0) ∧
  R1 c57_2 1 2 3 (.assign (.const (.bool false))) ∧
  RE c57_2 2 ∧
  Reg C c57_4 ∧
  R1 c57_4 0 1 4 (.fieldAddr 57 t2 0) ∧
  R1 c57_4 1 2 5 (.load 22 t4) ∧
  R1 c57_4 2 3 6 (.load 22 t1) ∧
  R1 c57_4 3 4 7 (.binOp .eql 22 t5 t6 22) ∧
  R1 c57_4 4 5 3 (.assign t7) ∧
  RE c57_4 5 ∧
  Seq C c57_3 c57_4 .ret ∧
  Seq C c57_1 c57_2 c57_3 :=
  ⟨reg_mk rfl, row1 rfl, row1 rfl, rowE rfl, reg_mk rfl, row1 rfl, row1 rfl, row1 rfl, row1 rfl, row1 rfl, rowE rfl, seq_mk rfl, seq_mk rfl⟩
theorem body57 : Try.f57.body = some c57_1 := rfl
/-! (fluxion/op.row).in -/
noncomputable def c32_1 : Code := (Try.f32.body).getD .skip
noncomputable def c32_2 : Code := kid c32_1 0
noncomputable def c32_3 : Code := kid c32_1 1
noncomputable def c32_4 : Code := kid c32_3 0
@[go_sem] theorem w32 : Reg C c32_2 ∧
  R1 c32_2 0 1 2 (.box 57 t0) ∧
  R1 c32_2 1 2 4 (.assign (.const (.bool false))) ∧
  RE c32_2 2 ∧
  Reg C c32_4 ∧
  R1 c32_4 0 1 5 (.move t1) ∧
  R1 c32_4 1 2 6 (.fieldAddr 57 t2 2) ∧
  R1 c32_4 2 3 7 (.load 3 t6) ∧
  R1 c32_4 3 4 8 (.binOp .geq 3 t5 t7 3) ∧
  R1 c32_4 4 5 9 (.move t8) ∧
  RG c32_4 5 6 (some 10) (.move t1) 9 true ∧
  RG c32_4 6 7 (some 11) (.fieldAddr 57 t2 3) 9 true ∧
  RG c32_4 7 8 (some 12) (.load 3 t11) 9 true ∧
  RG c32_4 8 9 (some 13) (.binOp .leq 3 t10 t12 3) 9 true ∧
  R1 c32_4 9 10 14 (.pick t9 t13 (.const (.bool false))) ∧
  R1 c32_4 10 11 4 (.assign t14) ∧
  RE c32_4 11 ∧
  Seq C c32_3 c32_4 .ret ∧
  Seq C c32_1 c32_2 c32_3 :=
  ⟨reg_mk rfl, row1 rfl, row1 rfl, rowE rfl, reg_mk rfl, row1 rfl, row1 rfl, row1 rfl, row1 rfl, row1 rfl, rowG rfl rfl, rowG rfl rfl, rowG rfl rfl, rowG rfl rfl, row1 rfl, row1 rfl, rowE rfl, seq_mk rfl, seq_mk rfl⟩
theorem body32 : Try.f32.body = some c32_1 := rfl
/-! slices.IndexFunc[[]int,int] -/
noncomputable def c58_1 : Code := (Try.f58.body).getD .skip
noncomputable def c58_2 : Code := kid c58_1 0
noncomputable def c58_3 : Code := kid c58_1 1
noncomputable def c58_4 : Code := kid c58_3 0
noncomputable def c58_5 : Code := kid c58_4 0
noncomputable def c58_6 : Code := kid c58_4 1
noncomputable def c58_7 : Code := kid c58_6 0
noncomputable def c58_8 : Code := kid c58_7 0
noncomputable def c58_9 : Code := kid c58_8 0
noncomputable def c58_10 : Code := kid c58_8 1
noncomputable def c58_11 : Code := kid c58_10 0
noncomputable def c58_12 : Code := kid c58_10 1
noncomputable def c58_13 : Code := kid c58_12 0
noncomputable def c58_14 : Code := kid c58_13 0
noncomputable def c58_15 : Code := kid c58_14 0
noncomputable def c58_16 : Code := kid c58_14 1
noncomputable def c58_17 : Code := kid c58_16 0
noncomputable def c58_18 : Code := kid c58_16 1
noncomputable def c58_19 : Code := kid c58_18 0
noncomputable def c58_20 : Code := kid c58_19 0
noncomputable def c58_21 : Code := kid c58_12 1
noncomputable def c58_22 : Code := kid c58_3 1
noncomputable def c58_23 : Code := kid c58_22 0
@[go_sem] theorem w58 : Reg C c58_2 ∧
  R1 c58_2 0 1 4 (.assign (.const (.int .i64 0))) ∧
  RE c58_2 1 ∧
  Reg C c58_5 ∧
  R1 c58_5 0 1 6 (.move t0) ∧
  R1 c58_5 1 2 7 (.call ⟨.builtin .len, #[t6], #[23]⟩) ∧
  R1 c58_5 2 3 8 (.move (.const (.int .i64 0))) ∧
  RE c58_5 3 ∧
  Reg C c58_9 ∧
  R1 c58_9 0 1 9 (.binOp .lss 3 t8 t7 3) ∧
  RE c58_9 1 ∧
  Cond C c58_11 t9 .skip (.exit 0) ∧
  Reg C c58_15 ∧
  R1 c58_15 0 1 10 (.move t8) ∧
  R1 c58_15 1 2 5 (.assign t10) ∧
  RE c58_15 2 ∧
  Reg C c58_17 ∧
  R1 c58_17 0 1 11 (.move t1) ∧
  R1 c58_17 1 2 12 (.move t0) ∧
  R1 c58_17 2 3 13 (.move t5) ∧
  R1 c58_17 3 4 14 (.indexAddr 23 t12 t13) ∧
  R1 c58_17 4 5 15 (.load 3 t14) ∧
  R1 c58_17 5 6 16 (.call ⟨.value t11, #[t15], #[3]⟩) ∧
  RE c58_17 6 ∧
  Reg C c58_20 ∧
  R1 c58_20 0 1 17 (.move t5) ∧
  R1 c58_20 1 2 4 (.assign t17) ∧
  RE c58_20 2 ∧
  Seq C c58_19 c58_20 .ret ∧
  Cond C c58_18 t16 c58_19 .skip ∧
  Seq C c58_16 c58_17 c58_18 ∧
  Seq C c58_14 c58_15 c58_16 ∧
  Blk C c58_13 1 c58_14 ∧
  Reg C c58_21 ∧
  R1 c58_21 0 1 18 (.binOp .add 3 t8 (.const (.int .i64 1)) 3) ∧
  R1 c58_21 1 2 8 (.move t18) ∧
  RE c58_21 2 ∧
  Seq C c58_12 c58_13 c58_21 ∧
  Seq C c58_10 c58_11 c58_12 ∧
  Seq C c58_8 c58_9 c58_10 ∧
  Lp C c58_7 c58_8 ∧
  Blk C c58_6 0 c58_7 ∧
  Seq C c58_4 c58_5 c58_6 ∧
  Reg C c58_23 ∧
  R1 c58_23 0 1 4 (.assign (.const (.int .i64 (-1)))) ∧
  RE c58_23 1 ∧
  Seq C c58_22 c58_23 .ret ∧
  Seq C c58_3 c58_4 c58_22 ∧
  Seq C c58_1 c58_2 c58_3 :=
  ⟨reg_mk rfl, row1 rfl, rowE rfl, reg_mk rfl, row1 rfl, row1 rfl, row1 rfl, rowE rfl, reg_mk rfl, row1 rfl, rowE rfl, cond_mk rfl, reg_mk rfl, row1 rfl, row1 rfl, rowE rfl, reg_mk rfl, row1 rfl, row1 rfl, row1 rfl, row1 rfl, row1 rfl, row1 rfl, rowE rfl, reg_mk rfl, row1 rfl, row1 rfl, rowE rfl, seq_mk rfl, cond_mk rfl, seq_mk rfl, seq_mk rfl, blk_mk rfl, reg_mk rfl, row1 rfl, row1 rfl, rowE rfl, seq_mk rfl, seq_mk rfl, seq_mk rfl, lp_mk rfl, blk_mk rfl, seq_mk rfl, reg_mk rfl, row1 rfl, rowE rfl, seq_mk rfl, seq_mk rfl, seq_mk rfl⟩
theorem body58 : Try.f58.body = some c58_1 := rfl
/-! slices.ContainsFunc[[]int,int] -/
noncomputable def c33_1 : Code := (Try.f33.body).getD .skip
noncomputable def c33_2 : Code := kid c33_1 0
noncomputable def c33_3 : Code := kid c33_1 1
noncomputable def c33_4 : Code := kid c33_3 0
@[go_sem] theorem w33 : Reg C c33_2 ∧
  R1 c33_2 0 1 4 (.assign (.const (.bool false))) ∧
  RE c33_2 1 ∧
  Reg C c33_4 ∧
  R1 c33_4 0 1 5 (.move t0) ∧
  R1 c33_4 1 2 6 (.move t1) ∧
  R1 c33_4 2 3 7 (.call ⟨.value (.func 58), #[t5, t6], #[23, 60]⟩) ∧
  R1 c33_4 3 4 8 (.binOp .geq 3 t7 (.const (.int .i64 0)) 3) ∧
  R1 c33_4 4 5 4 (.assign t8) ∧
  RE c33_4 5 ∧
  Seq C c33_3 c33_4 .ret ∧
  Seq C c33_1 c33_2 c33_3 :=
  ⟨reg_mk rfl, row1 rfl, rowE rfl, reg_mk rfl, row1 rfl, row1 rfl, row1 rfl, row1 rfl, row1 rfl, rowE rfl, seq_mk rfl, seq_mk rfl⟩
theorem body33 : Try.f33.body = some c33_1 := rfl
/-! fluxion/op.Check -/
noncomputable def c22_1 : Code := (Try.f22.body).getD .skip
noncomputable def c22_2 : Code := kid c22_1 0
noncomputable def c22_3 : Code := kid c22_1 1
noncomputable def c22_4 : Code := kid c22_3 0
noncomputable def c22_5 : Code := kid c22_3 1
noncomputable def c22_6 : Code := kid c22_5 0
noncomputable def c22_7 : Code := kid c22_5 1
noncomputable def c22_8 : Code := kid c22_7 0
noncomputable def c22_9 : Code := kid c22_8 0
noncomputable def c22_10 : Code := kid c22_9 0
noncomputable def c22_11 : Code := kid c22_9 1
noncomputable def c22_12 : Code := kid c22_11 0
noncomputable def c22_13 : Code := kid c22_12 0
noncomputable def c22_14 : Code := kid c22_11 1
noncomputable def c22_15 : Code := kid c22_14 0
noncomputable def c22_16 : Code := kid c22_14 1
noncomputable def c22_17 : Code := kid c22_16 0
noncomputable def c22_18 : Code := kid c22_17 0
noncomputable def c22_19 : Code := kid c22_16 1
noncomputable def c22_20 : Code := kid c22_19 0
noncomputable def c22_21 : Code := kid c22_19 1
noncomputable def c22_22 : Code := kid c22_21 0
noncomputable def c22_23 : Code := kid c22_22 0
noncomputable def c22_24 : Code := kid c22_21 1
noncomputable def c22_25 : Code := kid c22_24 0
noncomputable def c22_26 : Code := kid c22_24 1
noncomputable def c22_27 : Code := kid c22_26 0
noncomputable def c22_28 : Code := kid c22_27 0
noncomputable def c22_29 : Code := kid c22_26 1
noncomputable def c22_30 : Code := kid c22_29 0
noncomputable def c22_31 : Code := kid c22_29 1
noncomputable def c22_32 : Code := kid c22_31 0
noncomputable def c22_33 : Code := kid c22_32 0
noncomputable def c22_34 : Code := kid c22_7 1
noncomputable def c22_35 : Code := kid c22_34 0
@[go_sem] theorem w22 : Reg C c22_2 ∧
  R1 c22_2 0 1 3 (.box 25 t1) ∧
  R1 c22_2 1 2 4 (.assign (.const (.int .i64 0))) ∧
  RE c22_2 2 ∧
  Reg C c22_4 ∧
  R1 c22_4 0 1 9 (.fieldAddr 25 t3 0) ∧
  R1 c22_4 1 2 10 (.load 22 t9) ∧
  R1 c22_4 2 3 11 (.call ⟨.value (.func 30), #[t10], #[22]⟩) ∧
  R1 c22_4 3 4 8 (.move t11) ∧
  R1 c22_4 4 5 12 (.extract t8 0) ∧
  R1 c22_4 5 6 13 (.extract t8 1) ∧
  R1 c22_4 6 7 5 (.alloc 57) ∧
  R0 c22_4 7 8 (.store 57 t5 t12) ∧
  R1 c22_4 8 9 6 (.assign t13) ∧
  RE c22_4 9 ∧
  Reg C c22_6 ∧
  R1 c22_6 0 1 7 (.assign (.func 31)) ∧
  RE c22_6 1 ∧
  Reg C c22_10 ∧
  R1 c22_10 0 1 15 (.move t0) ∧
  R1 c22_10 1 2 16 (.binOp .lss 3 t15 (.const (.int .i64 1)) 3) ∧
  R1 c22_10 2 3 17 (.move t16) ∧
  RG c22_10 3 4 (some 18) (.move t0) 17 false ∧
  RG c22_10 4 5 (some 19) (.binOp .gtr 3 t18 (.const (.int .i64 3)) 3) 17 false ∧
  R1 c22_10 5 6 20 (.pick t17 (.const (.bool true)) t19) ∧
  R1 c22_10 6 7 14 (.assign t20) ∧
  RE c22_10 7 ∧
  Reg C c22_13 ∧
  R1 c22_13 0 1 4 (.assign (.const (.int .i64 8))) ∧
  RE c22_13 1 ∧
  Seq C c22_12 c22_13 .ret ∧
  Reg C c22_15 ∧
  R1 c22_15 0 1 22 (.move t6) ∧
  R1 c22_15 1 2 23 (.unOp .not 4 t22) ∧
  R1 c22_15 2 3 24 (.move t23) ∧
  RG c22_15 3 4 (some 25) (.load 57 t5) 24 false ∧
  RG c22_15 4 5 (some 26) (.move t0) 24 false ∧
  RG c22_15 5 6 (some 27) (.call ⟨.value (.func 32), #[t25, t26], #[57, 3]⟩) 24 false ∧
  RG c22_15 6 7 (some 28) (.unOp .not 4 t27) 24 false ∧
  R1 c22_15 7 8 29 (.pick t24 (.const (.bool true)) t28) ∧
  R1 c22_15 8 9 21 (.assign t29) ∧
  RE c22_15 9 ∧
  Reg C c22_18 ∧
  R1 c22_18 0 1 4 (.assign (.const (.int .i64 9))) ∧
  RE c22_18 1 ∧
  Seq C c22_17 c22_18 .ret ∧
  Reg C c22_20 ∧
  R1 c22_20 0 1 31 (.fieldAddr 25 t3 1) ∧
  R1 c22_20 1 2 32 (.load 23 t31) ∧
  R1 c22_20 2 3 33 (.call ⟨.builtin .len, #[t32], #[23]⟩) ∧
  R1 c22_20 3 4 34 (.fieldAddr 57 t5 4) ∧
  R1 c22_20 4 5 35 (.load 3 t34) ∧
  R1 c22_20 5 6 36 (.binOp .lss 3 t33 t35 3) ∧
  R1 c22_20 6 7 37 (.move t36) ∧
  RG c22_20 7 8 (some 38) (.fieldAddr 25 t3 1) 37 false ∧
  RG c22_20 8 9 (some 39) (.load 23 t38) 37 false ∧
  RG c22_20 9 10 (some 40) (.call ⟨.builtin .len, #[t39], #[23]⟩) 37 false ∧
  RG c22_20 10 11 (some 41) (.fieldAddr 57 t5 5) 37 false ∧
  RG c22_20 11 12 (some 42) (.load 3 t41) 37 false ∧
  RG c22_20 12 13 (some 43) (.binOp .gtr 3 t40 t42 3) 37 false ∧
  R1 c22_20 13 14 44 (.pick t37 (.const (.bool true)) t43) ∧
  R1 c22_20 14 15 30 (.assign t44) ∧
  RE c22_20 15 ∧
  Reg C c22_23 ∧
  R1 c22_23 0 1 4 (.assign (.const (.int .i64 10))) ∧
  RE c22_23 1 ∧
  Seq C c22_22 c22_23 .ret ∧
  Reg C c22_25 ∧
  R1 c22_25 0 1 46 (.fieldAddr 25 t3 2) ∧
  R1 c22_25 1 2 47 (.load 23 t46) ∧
  R1 c22_25 2 3 48 (.call ⟨.builtin .len, #[t47], #[23]⟩) ∧
  R1 c22_25 3 4 49 (.binOp .eql 3 t48 (.const (.int .i64 0)) 3) ∧
  R1 c22_25 4 5 50 (.move t49) ∧
  RG c22_25 5 6 (some 51) (.move t0) 50 true ∧
  RG c22_25 6 7 (some 52) (.fieldAddr 57 t5 7) 50 true ∧
  RG c22_25 7 8 (some 53) (.load 3 t52) 50 true ∧
  RG c22_25 8 9 (some 54) (.binOp .leq 3 t51 t53 3) 50 true ∧
  R1 c22_25 9 10 55 (.pick t50 t54 (.const (.bool false))) ∧
  R1 c22_25 10 11 45 (.assign t55) ∧
  RE c22_25 11 ∧
  Reg C c22_28 ∧
  R1 c22_28 0 1 4 (.assign (.const (.int .i64 0))) ∧
  RE c22_28 1 ∧
  Seq C c22_27 c22_28 .ret ∧
  Reg C c22_30 ∧
  R1 c22_30 0 1 57 (.fieldAddr 25 t3 2) ∧
  R1 c22_30 1 2 58 (.load 23 t57) ∧
  R1 c22_30 2 3 59 (.move t7) ∧
  R1 c22_30 3 4 60 (.call ⟨.value (.func 33), #[t58, t59], #[23, 60]⟩) ∧
  R1 c22_30 4 5 61 (.move t60) ∧
  RG c22_30 5 6 (some 62) (.fieldAddr 57 t5 6) 61 false ∧
  RG c22_30 6 7 (some 63) (.load 55 t62) 61 false ∧
  RG c22_30 7 8 (some 64) (.fieldAddr 25 t3 2) 61 false ∧
  RG c22_30 8 9 (some 65) (.load 23 t64) 61 false ∧
  RG c22_30 9 10 (some 66) (.call ⟨.value t63, #[t65], #[23]⟩) 61 false ∧
  RG c22_30 10 11 (some 67) (.unOp .not 4 t66) 61 false ∧
  R1 c22_30 11 12 68 (.pick t61 (.const (.bool true)) t67) ∧
  R1 c22_30 12 13 56 (.assign t68) ∧
  RE c22_30 13 ∧
  Reg C c22_33 ∧
  R1 c22_33 0 1 4 (.assign (.const (.int .i64 11))) ∧
  RE c22_33 1 ∧
  Seq C c22_32 c22_33 .ret ∧
  Cond C c22_31 t56 c22_32 .skip ∧
  Seq C c22_29 c22_30 c22_31 ∧
  Cond C c22_26 t45 c22_27 c22_29 ∧
  Seq C c22_24 c22_25 c22_26 ∧
  Cond C c22_21 t30 c22_22 c22_24 ∧
  Seq C c22_19 c22_20 c22_21 ∧
  Cond C c22_16 t21 c22_17 c22_19 ∧
  Seq C c22_14 c22_15 c22_16 ∧
  Cond C c22_11 t14 c22_12 c22_14 ∧
  Seq C c22_9 c22_10 c22_11 ∧
  Blk C c22_8 0 c22_9 ∧
  Reg C c22_35 ∧
  R1 c22_35 0 1 4 (.assign (.const (.int .i64 0))) ∧
  RE c22_35 1 ∧
  Seq C c22_34 c22_35 .ret ∧
  Seq C c22_7 c22_8 c22_34 ∧
  Seq C c22_5 c22_6 c22_7 ∧
  Seq C c22_3 c22_4 c22_5 ∧
  Seq C c22_1 c22_2 c22_3 :=
  ⟨reg_mk rfl, row1 rfl, row1 rfl, rowE rfl, reg_mk rfl, row1 rfl, row1 rfl, row1 rfl, row1 rfl, row1 rfl, row1 rfl, row1 rfl, row0 rfl, row1 rfl, rowE rfl, reg_mk rfl, row1 rfl, rowE rfl, reg_mk rfl, row1 rfl, row1 rfl, row1 rfl, rowG rfl rfl, rowG rfl rfl, row1 rfl, row1 rfl, rowE rfl, reg_mk rfl, row1 rfl, rowE rfl, seq_mk rfl, reg_mk rfl, row1 rfl, row1 rfl, row1 rfl, rowG rfl rfl, rowG rfl rfl, rowG rfl rfl, rowG rfl rfl, row1 rfl, row1 rfl, rowE rfl, reg_mk rfl, row1 rfl, rowE rfl, seq_mk rfl, reg_mk rfl, row1 rfl, row1 rfl, row1 rfl, row1 rfl, row1 rfl, row1 rfl, row1 rfl, rowG rfl rfl, rowG rfl rfl, rowG rfl rfl, rowG rfl rfl, rowG rfl rfl, rowG rfl rfl, row1 rfl, row1 rfl, rowE rfl, reg_mk rfl, row1 rfl, rowE rfl, seq_mk rfl, reg_mk rfl, row1 rfl, row1 rfl, row1 rfl, row1 rfl, row1 rfl, rowG rfl rfl, rowG rfl rfl, rowG rfl rfl, rowG rfl rfl, row1 rfl, row1 rfl, rowE rfl, reg_mk rfl, row1 rfl, rowE rfl, seq_mk rfl, reg_mk rfl, row1 rfl, row1 rfl, row1 rfl, row1 rfl, row1 rfl, rowG rfl rfl, rowG rfl rfl, rowG rfl rfl, rowG rfl rfl, rowG rfl rfl, rowG rfl rfl, row1 rfl, row1 rfl, rowE rfl, reg_mk rfl, row1 rfl, rowE rfl, seq_mk rfl, cond_mk rfl, seq_mk rfl, cond_mk rfl, seq_mk rfl, cond_mk rfl, seq_mk rfl, cond_mk rfl, seq_mk rfl, cond_mk rfl, seq_mk rfl, blk_mk rfl, reg_mk rfl, row1 rfl, rowE rfl, seq_mk rfl, seq_mk rfl, seq_mk rfl, seq_mk rfl, seq_mk rfl⟩
theorem body22 : Try.f22.body = some c22_1 := rfl
/-! fluxion/op.Check$1 -/
noncomputable def c31_1 : Code := (Try.f31.body).getD .skip
noncomputable def c31_2 : Code := kid c31_1 0
noncomputable def c31_3 : Code := kid c31_1 1
noncomputable def c31_4 : Code := kid c31_3 0
@[go_sem] theorem w31 : Reg C c31_2 ∧
  R1 c31_2 0 1 2 (.assign (.const (.bool false))) ∧
  RE c31_2 1 ∧
  Reg C c31_4 ∧
  R1 c31_4 0 1 3 (.move t0) ∧
  R1 c31_4 1 2 4 (.binOp .gtr 3 t3 (.const (.int .i64 2147483647)) 3) ∧
  R1 c31_4 2 3 5 (.move t4) ∧
  RG c31_4 3 4 (some 6) (.move t0) 5 false ∧
  RG c31_4 4 5 (some 7) (.binOp .lss 3 t6 (.const (.int .i64 (-2147483647))) 3) 5 false ∧
  R1 c31_4 5 6 8 (.pick t5 (.const (.bool true)) t7) ∧
  R1 c31_4 6 7 2 (.assign t8) ∧
  RE c31_4 7 ∧
  Seq C c31_3 c31_4 .ret ∧
  Seq C c31_1 c31_2 c31_3 :=
  ⟨reg_mk rfl, row1 rfl, rowE rfl, reg_mk rfl, row1 rfl, row1 rfl, row1 rfl, rowG rfl rfl, rowG rfl rfl, row1 rfl, row1 rfl, rowE rfl, seq_mk rfl, seq_mk rfl⟩
theorem body31 : Try.f31.body = some c31_1 := rfl
/-! fluxion/op.Explicit -/
noncomputable def c25_1 : Code := (Try.f25.body).getD .skip
noncomputable def c25_2 : Code := kid c25_1 0
noncomputable def c25_3 : Code := kid c25_1 1
noncomputable def c25_4 : Code := kid c25_3 0
noncomputable def c25_5 : Code := kid c25_3 1
noncomputable def c25_6 : Code := kid c25_5 0
noncomputable def c25_7 : Code := kid c25_5 1
noncomputable def c25_8 : Code := kid c25_7 0
noncomputable def c25_9 : Code := kid c25_8 0
noncomputable def c25_10 : Code := kid c25_8 1
noncomputable def c25_11 : Code := kid c25_10 0
noncomputable def c25_12 : Code := kid c25_11 0
noncomputable def c25_13 : Code := kid c25_7 1
noncomputable def c25_14 : Code := kid c25_13 0
noncomputable def c25_15 : Code := kid c25_13 1
noncomputable def c25_16 : Code := kid c25_15 0
noncomputable def c25_17 : Code := kid c25_16 0
noncomputable def c25_18 : Code := kid c25_16 1
noncomputable def c25_19 : Code := kid c25_18 0
noncomputable def c25_20 : Code := kid c25_15 1
noncomputable def c25_21 : Code := kid c25_20 0
noncomputable def c25_22 : Code := kid c25_21 0
noncomputable def c25_23 : Code := kid c25_21 1
noncomputable def c25_24 : Code := kid c25_23 0
noncomputable def c25_25 : Code := kid c25_24 0
noncomputable def c25_26 : Code := kid c25_24 1
noncomputable def c25_27 : Code := kid c25_26 0
noncomputable def c25_28 : Code := kid c25_26 1
noncomputable def c25_29 : Code := kid c25_28 0
noncomputable def c25_30 : Code := kid c25_28 1
noncomputable def c25_31 : Code := kid c25_30 0
noncomputable def c25_32 : Code := kid c25_30 1
noncomputable def c25_33 : Code := kid c25_32 0
noncomputable def c25_34 : Code := kid c25_32 1
noncomputable def c25_35 : Code := kid c25_34 0
noncomputable def c25_36 : Code := kid c25_35 0
noncomputable def c25_37 : Code := kid c25_36 0
noncomputable def c25_38 : Code := kid c25_36 1
noncomputable def c25_39 : Code := kid c25_38 0
noncomputable def c25_40 : Code := kid c25_38 1
noncomputable def c25_41 : Code := kid c25_40 0
noncomputable def c25_42 : Code := kid c25_41 0
noncomputable def c25_43 : Code := kid c25_42 0
noncomputable def c25_44 : Code := kid c25_42 1
noncomputable def c25_45 : Code := kid c25_40 1
noncomputable def c25_46 : Code := kid c25_20 1
noncomputable def c25_47 : Code := kid c25_46 0
noncomputable def c25_48 : Code := kid c25_47 0
noncomputable def c25_49 : Code := kid c25_47 1
noncomputable def c25_50 : Code := kid c25_49 0
noncomputable def c25_51 : Code := kid c25_46 1
noncomputable def c25_52 : Code := kid c25_51 0
@[go_sem] theorem w25 : Reg C c25_2 ∧
  R1 c25_2 0 1 4 (.box 25 t1) ∧
  R1 c25_2 1 2 6 (.assign (.const (.slice none 0 0))) ∧
  RE c25_2 2 ∧
  Reg C c25_4 ∧
  R1 c25_4 0 1 12 (.fieldAddr 25 t4 2) ∧
  R1 c25_4 1 2 13 (.load 23 t12) ∧
  R1 c25_4 2 3 14 (.call ⟨.value (.func 36), #[t13], #[23]⟩) ∧
  R1 c25_4 3 4 7 (.assign t14) ∧
  RE c25_4 4 ∧
  Reg C c25_6 ∧
  R1 c25_6 0 1 16 (.fieldAddr 25 t4 0) ∧
  R1 c25_6 1 2 17 (.load 22 t16) ∧
  R1 c25_6 2 3 18 (.call ⟨.value (.func 30), #[t17], #[22]⟩) ∧
  R1 c25_6 3 4 15 (.move t18) ∧
  R1 c25_6 4 5 19 (.extract t15 0) ∧
  R1 c25_6 5 6 20 (.extract t15 1) ∧
  R1 c25_6 6 7 8 (.alloc 57) ∧
  R0 c25_6 7 8 (.store 57 t8 t19) ∧
  R1 c25_6 8 9 9 (.assign t20) ∧
  RE c25_6 9 ∧
  Reg C c25_9 ∧
  R1 c25_9 0 1 21 (.move t0) ∧
  R1 c25_9 1 2 22 (.load 25 t4) ∧
  R1 c25_9 2 3 23 (.call ⟨.value (.func 22), #[t21, t22], #[3, 25]⟩) ∧
  R1 c25_9 3 4 24 (.binOp .neq 29 t23 (.const (.int .i64 0)) 29) ∧
  R1 c25_9 4 5 25 (.move t24) ∧
  RG c25_9 5 6 (some 26) (.move t7) 25 false ∧
  RG c25_9 6 7 (some 27) (.call ⟨.builtin .len, #[t26], #[23]⟩) 25 false ∧
  RG c25_9 7 8 (some 28) (.binOp .gtr 3 t27 (.const (.int .i64 0)) 3) 25 false ∧
  R1 c25_9 8 9 29 (.pick t25 (.const (.bool true)) t28) ∧
  R1 c25_9 9 10 30 (.move t29) ∧
  RG c25_9 10 11 (some 31) (.move t0) 30 false ∧
  RG c25_9 11 12 (some 32) (.fieldAddr 57 t8 7) 30 false ∧
  RG c25_9 12 13 (some 33) (.load 3 t32) 30 false ∧
  RG c25_9 13 14 (some 34) (.binOp .gtr 3 t31 t33 3) 30 false ∧
  R1 c25_9 14 15 35 (.pick t30 (.const (.bool true)) t34) ∧
  RE c25_9 15 ∧
  Reg C c25_12 ∧
  R1 c25_12 0 1 36 (.move t7) ∧
  R1 c25_12 1 2 6 (.assign t36) ∧
  RE c25_12 2 ∧
  Seq C c25_11 c25_12 .ret ∧
  Cond C c25_10 t35 c25_11 .skip ∧
  Seq C c25_8 c25_9 c25_10 ∧
  Reg C c25_14 ∧
  R1 c25_14 0 1 10 (.assign (.const (.int .i64 0))) ∧
  RE c25_14 1 ∧
  Reg C c25_17 ∧
  R1 c25_17 0 1 37 (.move t2) ∧
  R1 c25_17 1 2 38 (.call ⟨.builtin .len, #[t37], #[23]⟩) ∧
  R1 c25_17 2 3 39 (.binOp .gtr 3 t38 (.const (.int .i64 0)) 3) ∧
  R1 c25_17 3 4 40 (.move t39) ∧
  RG c25_17 4 5 (some 41) (.move t2) 40 true ∧
  RG c25_17 5 6 (some 42) (.indexAddr 23 t41 (.const (.int .i64 0))) 40 true ∧
  RG c25_17 6 7 (some 43) (.load 3 t42) 40 true ∧
  RG c25_17 7 8 (some 44) (.binOp .geq 3 t43 (.const (.int .i64 0)) 3) 40 true ∧
  R1 c25_17 8 9 45 (.pick t40 t44 (.const (.bool false))) ∧
  R1 c25_17 9 10 46 (.move t45) ∧
  RG c25_17 10 11 (some 47) (.move t2) 46 true ∧
  RG c25_17 11 12 (some 48) (.indexAddr 23 t47 (.const (.int .i64 0))) 46 true ∧
  RG c25_17 12 13 (some 49) (.load 3 t48) 46 true ∧
  RG c25_17 13 14 (some 50) (.binOp .leq 3 t49 (.const (.int .i64 4)) 3) 46 true ∧
  R1 c25_17 14 15 51 (.pick t46 t50 (.const (.bool false))) ∧
  RE c25_17 15 ∧
  Reg C c25_19 ∧
  R1 c25_19 0 1 52 (.move t2) ∧
  R1 c25_19 1 2 53 (.indexAddr 23 t52 (.const (.int .i64 0))) ∧
  R1 c25_19 2 3 54 (.load 3 t53) ∧
  R1 c25_19 3 4 10 (.assign t54) ∧
  RE c25_19 4 ∧
  Cond C c25_18 t51 c25_19 .skip ∧
  Seq C c25_16 c25_17 c25_18 ∧
  Reg C c25_22 ∧
  R1 c25_22 0 1 55 (.fieldAddr 25 t4 0) ∧
  R1 c25_22 1 2 56 (.load 22 t55) ∧
  RE c25_22 2 ∧
  Reg C c25_25 ∧
  R1 c25_25 0 1 67 (.binOp .eql 22 t56 (.const (.int .i64 6)) 22) ∧
  R1 c25_25 1 2 66 (.assign t67) ∧
  RE c25_25 2 ∧
  Reg C c25_27 ∧
  R1 c25_27 0 1 68 (.move t7) ∧
  R1 c25_27 1 2 69 (.buildSlice 23 1 #[(0, .const (.int .i64 2))]) ∧
  R1 c25_27 2 3 70 (.call ⟨.builtin .append, #[t68, t69], #[23, 23]⟩) ∧
  R1 c25_27 3 4 7 (.assign t70) ∧
  RE c25_27 4 ∧
  Reg C c25_29 ∧
  R1 c25_29 0 1 72 (.binOp .eql 22 t56 (.const (.int .i64 17)) 22) ∧
  R1 c25_29 1 2 71 (.assign t72) ∧
  RE c25_29 2 ∧
  Reg C c25_31 ∧
  R1 c25_31 0 1 73 (.move t7) ∧
  R1 c25_31 1 2 74 (.buildSlice 23 1 #[(0, .const (.int .i64 0))]) ∧
  R1 c25_31 2 3 75 (.call ⟨.builtin .append, #[t73, t74], #[23, 23]⟩) ∧
  R1 c25_31 3 4 7 (.assign t75) ∧
  RE c25_31 4 ∧
  Reg C c25_33 ∧
  R1 c25_33 0 1 57 (.move t10) ∧
  R1 c25_33 1 2 58 (.move (.const (.int .i64 0))) ∧
  RE c25_33 2 ∧
  Reg C c25_37 ∧
  R1 c25_37 0 1 59 (.binOp .lss 3 t58 t57 3) ∧
  RE c25_37 1 ∧
  Cond C c25_39 t59 .skip (.exit 1) ∧
  Reg C c25_43 ∧
  R1 c25_43 0 1 60 (.move t58) ∧
  R1 c25_43 1 2 11 (.assign t60) ∧
  RE c25_43 2 ∧
  Reg C c25_44 ∧
  R1 c25_44 0 1 61 (.move t7) ∧
  R1 c25_44 1 2 62 (.move t11) ∧
  R1 c25_44 2 3 63 (.buildSlice 23 1 #[(0, t62)]) ∧
  R1 c25_44 3 4 64 (.call ⟨.builtin .append, #[t61, t63], #[23, 23]⟩) ∧
  R1 c25_44 4 5 7 (.assign t64) ∧
  RE c25_44 5 ∧
  Seq C c25_42 c25_43 c25_44 ∧
  Blk C c25_41 2 c25_42 ∧
  Reg C c25_45 ∧
  R1 c25_45 0 1 65 (.binOp .add 3 t58 (.const (.int .i64 1)) 3) ∧
  R1 c25_45 1 2 58 (.move t65) ∧
  RE c25_45 2 ∧
  Seq C c25_40 c25_41 c25_45 ∧
  Seq C c25_38 c25_39 c25_40 ∧
  Seq C c25_36 c25_37 c25_38 ∧
  Lp C c25_35 c25_36 ∧
  Blk C c25_34 1 c25_35 ∧
  Seq C c25_32 c25_33 c25_34 ∧
  Cond C c25_30 t71 c25_31 c25_32 ∧
  Seq C c25_28 c25_29 c25_30 ∧
  Cond C c25_26 t66 c25_27 c25_28 ∧
  Seq C c25_24 c25_25 c25_26 ∧
  Blk C c25_23 0 c25_24 ∧
  Seq C c25_21 c25_22 c25_23 ∧
  Reg C c25_48 ∧
  R1 c25_48 0 1 76 (.fieldAddr 25 t4 0) ∧
  R1 c25_48 1 2 77 (.load 22 t76) ∧
  R1 c25_48 2 3 78 (.binOp .eql 22 t77 (.const (.int .i64 11)) 22) ∧
  RE c25_48 3 ∧
  Reg C c25_50 ∧
  R1 c25_50 0 1 79 (.move t7) ∧
  R1 c25_50 1 2 80 (.call ⟨.value (.func 48), #[t79], #[23]⟩) ∧
  RE c25_50 2 ∧
  Cond C c25_49 t78 c25_50 .skip ∧
  Seq C c25_47 c25_48 c25_49 ∧
  Reg C c25_52 ∧
  R1 c25_52 0 1 81 (.move t7) ∧
  R1 c25_52 1 2 6 (.assign t81) ∧
  RE c25_52 2 ∧
  Seq C c25_51 c25_52 .ret ∧
  Seq C c25_46 c25_47 c25_51 ∧
  Seq C c25_20 c25_21 c25_46 ∧
  Seq C c25_15 c25_16 c25_20 ∧
  Seq C c25_13 c25_14 c25_15 ∧
  Seq C c25_7 c25_8 c25_13 ∧
  Seq C c25_5 c25_6 c25_7 ∧
  Seq C c25_3 c25_4 c25_5 ∧
  Seq C c25_1 c25_2 c25_3 :=
  ⟨reg_mk rfl, row1 rfl, row1 rfl, rowE rfl, reg_mk rfl, row1 rfl, row1 rfl, row1 rfl, row1 rfl, rowE rfl, reg_mk rfl, row1 rfl, row1 rfl, row1 rfl, row1 rfl, row1 rfl, row1 rfl, row1 rfl, row0 rfl, row1 rfl, rowE rfl, reg_mk rfl, row1 rfl, row1 rfl, row1 rfl, row1 rfl, row1 rfl, rowG rfl rfl, rowG rfl rfl, rowG rfl rfl, row1 rfl, row1 rfl, rowG rfl rfl, rowG rfl rfl, rowG rfl rfl, rowG rfl rfl, row1 rfl, rowE rfl, reg_mk rfl, row1 rfl, row1 rfl, rowE rfl, seq_mk rfl, cond_mk rfl, seq_mk rfl, reg_mk rfl, row1 rfl, rowE rfl, reg_mk rfl, row1 rfl, row1 rfl, row1 rfl, row1 rfl, rowG rfl rfl, rowG rfl rfl, rowG rfl rfl, rowG rfl rfl, row1 rfl, row1 rfl, rowG rfl rfl, rowG rfl rfl, rowG rfl rfl, rowG rfl rfl, row1 rfl, rowE rfl, reg_mk rfl, row1 rfl, row1 rfl, row1 rfl, row1 rfl, rowE rfl, cond_mk rfl, seq_mk rfl, reg_mk rfl, row1 rfl, row1 rfl, rowE rfl, reg_mk rfl, row1 rfl, row1 rfl, rowE rfl, reg_mk rfl, row1 rfl, row1 rfl, row1 rfl, row1 rfl, rowE rfl, reg_mk rfl, row1 rfl, row1 rfl, rowE rfl, reg_mk rfl, row1 rfl, row1 rfl, row1 rfl, row1 rfl, rowE rfl, reg_mk rfl, row1 rfl, row1 rfl, rowE rfl, reg_mk rfl, row1 rfl, rowE rfl, cond_mk rfl, reg_mk rfl, row1 rfl, row1 rfl, rowE rfl, reg_mk rfl, row1 rfl, row1 rfl, row1 rfl, row1 rfl, row1 rfl, rowE rfl, seq_mk rfl, blk_mk rfl, reg_mk rfl, row1 rfl, row1 rfl, rowE rfl, seq_mk rfl, seq_mk rfl, seq_mk rfl, lp_mk rfl, blk_mk rfl, seq_mk rfl, cond_mk rfl, seq_mk rfl, cond_mk rfl, seq_mk rfl, blk_mk rfl, seq_mk rfl, reg_mk rfl, row1 rfl, row1 rfl, row1 rfl, rowE rfl, reg_mk rfl, row1 rfl, row1 rfl, rowE rfl, cond_mk rfl, seq_mk rfl, reg_mk rfl, row1 rfl, row1 rfl, rowE rfl, seq_mk rfl, seq_mk rfl, seq_mk rfl, seq_mk rfl, seq_mk rfl, seq_mk rfl, seq_mk rfl, seq_mk rfl, seq_mk rfl⟩
theorem body25 : Try.f25.body = some c25_1 := rfl
/-! slices.Reverse[[]int,int] -/
noncomputable def c48_1 : Code := (Try.f48.body).getD .skip
noncomputable def c48_2 : Code := kid c48_1 0
noncomputable def c48_3 : Code := kid c48_1 1
noncomputable def c48_4 : Code := kid c48_3 0
noncomputable def c48_5 : Code := kid c48_4 0
noncomputable def c48_6 : Code := kid c48_5 0
noncomputable def c48_7 : Code := kid c48_6 0
noncomputable def c48_8 : Code := kid c48_6 1
noncomputable def c48_9 : Code := kid c48_5 1
noncomputable def c48_10 : Code := kid c48_9 0
noncomputable def c48_11 : Code := kid c48_10 0
noncomputable def c48_12 : Code := kid c48_9 1
@[go_sem] theorem w48 : Reg C c48_2 ∧
  R1 c48_2 0 1 4 (.move t0) ∧
  R1 c48_2 1 2 5 (.call ⟨.builtin .len, #[t4], #[23]⟩) ∧
  R1 c48_2 2 3 6 (.binOp .sub 3 t5 (.const (.int .i64 1)) 3) ∧
  R1 c48_2 3 4 2 (.assign (.const (.int .i64 0))) ∧
  R1 c48_2 4 5 3 (.assign t6) ∧
  RE c48_2 5 ∧
  Reg C c48_7 ∧
  R1 c48_7 0 1 7 (.move t2) ∧
  R1 c48_7 1 2 8 (.move t3) ∧
  R1 c48_7 2 3 9 (.binOp .lss 3 t7 t8 3) ∧
  RE c48_7 3 ∧
  Cond C c48_8 t9 .skip (.exit 0) ∧
  Seq C c48_6 c48_7 c48_8 ∧
  Draw C c48_11 ∧
  D1 c48_11 0 1 14 (.move t0) ∧
  D1 c48_11 1 2 15 (.move t2) ∧
  D1 c48_11 2 3 16 (.move t0) ∧
  D1 c48_11 3 4 17 (.move t3) ∧
  D1 c48_11 4 5 18 (.move t0) ∧
  D1 c48_11 5 6 19 (.move t3) ∧
  D1 c48_11 6 7 20 (.indexAddr 23 t18 t19) ∧
  D1 c48_11 7 8 21 (.load 3 t20) ∧
  D1 c48_11 8 9 22 (.move t0) ∧
  D1 c48_11 9 10 23 (.move t2) ∧
  D1 c48_11 10 11 24 (.indexAddr 23 t22 t23) ∧
  D1 c48_11 11 12 25 (.load 3 t24) ∧
  D1 c48_11 12 13 26 (.indexAddr 23 t14 t15) ∧
  D0 c48_11 13 14 (.store 3 t26 t21) ∧
  D1 c48_11 14 15 27 (.indexAddr 23 t16 t17) ∧
  D0 c48_11 15 16 (.store 3 t27 t25) ∧
  DE c48_11 16 ∧
  Blk C c48_10 1 c48_11 ∧
  Reg C c48_12 ∧
  R1 c48_12 0 1 10 (.move t2) ∧
  R1 c48_12 1 2 11 (.binOp .add 3 t10 (.const (.int .i64 1)) 3) ∧
  R1 c48_12 2 3 12 (.move t3) ∧
  R1 c48_12 3 4 13 (.binOp .sub 3 t12 (.const (.int .i64 1)) 3) ∧
  R1 c48_12 4 5 2 (.assign t11) ∧
  R1 c48_12 5 6 3 (.assign t13) ∧
  RE c48_12 6 ∧
  Seq C c48_9 c48_10 c48_12 ∧
  Seq C c48_5 c48_6 c48_9 ∧
  Lp C c48_4 c48_5 ∧
  Blk C c48_3 0 c48_4 ∧
  Seq C c48_1 c48_2 c48_3 :=
  ⟨reg_mk rfl, row1 rfl, row1 rfl, row1 rfl, row1 rfl, row1 rfl, rowE rfl, reg_mk rfl, row1 rfl, row1 rfl, row1 rfl, rowE rfl, cond_mk rfl, seq_mk rfl, draw_mk rfl, dow1 rfl, dow1 rfl, dow1 rfl, dow1 rfl, dow1 rfl, dow1 rfl, dow1 rfl, dow1 rfl, dow1 rfl, dow1 rfl, dow1 rfl, dow1 rfl, dow1 rfl, dow0 rfl, dow1 rfl, dow0 rfl, dowE rfl, blk_mk rfl, reg_mk rfl, row1 rfl, row1 rfl, row1 rfl, row1 rfl, row1 rfl, row1 rfl, rowE rfl, seq_mk rfl, seq_mk rfl, lp_mk rfl, blk_mk rfl, seq_mk rfl⟩
theorem body48 : Try.f48.body = some c48_1 := rfl
/-! fluxion/op.turned -/
noncomputable def c73_1 : Code := (Try.f73.body).getD .skip
noncomputable def c73_2 : Code := kid c73_1 0
noncomputable def c73_3 : Code := kid c73_1 1
noncomputable def c73_4 : Code := kid c73_3 0
@[go_sem] theorem w73 : Reg C c73_2 ∧
  R1 c73_2 0 1 2 (.assign (.const (.bool false))) ∧
  RE c73_2 1 ∧
  Reg C c73_4 ∧
  R1 c73_4 0 1 3 (.move t0) ∧
  R1 c73_4 1 2 4 (.call ⟨.builtin .len, #[t3], #[23]⟩) ∧
  R1 c73_4 2 3 5 (.binOp .leq 3 t4 (.const (.int .i64 4)) 3) ∧
  R1 c73_4 3 4 6 (.move t5) ∧
  RG c73_4 4 5 (some 7) (.move t0) 6 true ∧
  RG c73_4 5 6 (some 8) (.move t0) 6 true ∧
  RG c73_4 6 7 (some 9) (.call ⟨.builtin .len, #[t8], #[23]⟩) 6 true ∧
  RG c73_4 7 8 (some 10) (.call ⟨.value (.func 81), #[t7, t9], #[23, 3]⟩) 6 true ∧
  RG c73_4 8 9 (some 11) (.binOp .eql 29 t10 (.const (.int .i64 0)) 29) 6 true ∧
  R1 c73_4 9 10 12 (.pick t6 t11 (.const (.bool false))) ∧
  R1 c73_4 10 11 2 (.assign t12) ∧
  RE c73_4 11 ∧
  Seq C c73_3 c73_4 .ret ∧
  Seq C c73_1 c73_2 c73_3 :=
  ⟨reg_mk rfl, row1 rfl, rowE rfl, reg_mk rfl, row1 rfl, row1 rfl, row1 rfl, row1 rfl, rowG rfl rfl, rowG rfl rfl, rowG rfl rfl, rowG rfl rfl, rowG rfl rfl, row1 rfl, row1 rfl, rowE rfl, seq_mk rfl, seq_mk rfl⟩
theorem body73 : Try.f73.body = some c73_1 := rfl
end Go.Proofs.Ytlomgfdepllanaa
end

section
set_option maxRecDepth 100000
namespace Go.Proofs.Ytlomgfdepllanaa
open Go Go.Bv
/-! fluxion/shape.Perm -/
noncomputable def c81_1 : Code := (Try.f81.body).getD .skip
noncomputable def c81_2 : Code := kid c81_1 0
noncomputable def c81_3 : Code := kid c81_1 1
noncomputable def c81_4 : Code := kid c81_3 0
noncomputable def c81_5 : Code := kid c81_3 1
noncomputable def c81_6 : Code := kid c81_5 0
noncomputable def c81_7 : Code := kid c81_6 0
noncomputable def c81_8 : Code := kid c81_6 1
noncomputable def c81_9 : Code := kid c81_8 0
noncomputable def c81_10 : Code := kid c81_9 0
noncomputable def c81_11 : Code := kid c81_10 0
noncomputable def c81_12 : Code := kid c81_10 1
noncomputable def c81_13 : Code := kid c81_12 0
noncomputable def c81_14 : Code := kid c81_12 1
noncomputable def c81_15 : Code := kid c81_14 0
noncomputable def c81_16 : Code := kid c81_15 0
noncomputable def c81_17 : Code := kid c81_16 0
noncomputable def c81_18 : Code := kid c81_16 1
noncomputable def c81_19 : Code := kid c81_18 0
noncomputable def c81_20 : Code := kid c81_18 1
noncomputable def c81_21 : Code := kid c81_20 0
noncomputable def c81_22 : Code := kid c81_21 0
noncomputable def c81_23 : Code := kid c81_14 1
noncomputable def c81_24 : Code := kid c81_5 1
noncomputable def c81_25 : Code := kid c81_24 0
noncomputable def c81_26 : Code := kid c81_25 0
noncomputable def c81_27 : Code := kid c81_25 1
noncomputable def c81_28 : Code := kid c81_27 0
noncomputable def c81_29 : Code := kid c81_28 0
noncomputable def c81_30 : Code := kid c81_24 1
noncomputable def c81_31 : Code := kid c81_30 0
@[go_sem] theorem w81 : Reg C c81_2 ∧
  R1 c81_2 0 1 4 (.assign (.const (.int .i64 0))) ∧
  RE c81_2 1 ∧
  Reg C c81_4 ∧
  R1 c81_4 0 1 8 (.move t0) ∧
  R1 c81_4 1 2 9 (.call ⟨.value (.func 84), #[t8], #[23]⟩) ∧
  R1 c81_4 2 3 10 (.call ⟨.value (.func 83), #[t9], #[98]⟩) ∧
  R1 c81_4 3 4 5 (.assign t10) ∧
  RE c81_4 4 ∧
  Reg C c81_7 ∧
  R1 c81_7 0 1 11 (.move t5) ∧
  R1 c81_7 1 2 12 (.call ⟨.builtin .len, #[t11], #[23]⟩) ∧
  R1 c81_7 2 3 13 (.move (.const (.int .i64 0))) ∧
  RE c81_7 3 ∧
  Reg C c81_11 ∧
  R1 c81_11 0 1 14 (.binOp .lss 3 t13 t12 3) ∧
  RE c81_11 1 ∧
  Cond C c81_13 t14 .skip (.exit 0) ∧
  Reg C c81_17 ∧
  R1 c81_17 0 1 15 (.move t13) ∧
  R1 c81_17 1 2 16 (.indexAddr 23 t11 t13) ∧
  R1 c81_17 2 3 17 (.load 3 t16) ∧
  R1 c81_17 3 4 6 (.assign t15) ∧
  R1 c81_17 4 5 7 (.assign t17) ∧
  RE c81_17 5 ∧
  Reg C c81_19 ∧
  R1 c81_19 0 1 18 (.move t7) ∧
  R1 c81_19 1 2 19 (.move t6) ∧
  R1 c81_19 2 3 20 (.binOp .neq 3 t18 t19 3) ∧
  RE c81_19 3 ∧
  Reg C c81_22 ∧
  R1 c81_22 0 1 4 (.assign (.const (.int .i64 11))) ∧
  RE c81_22 1 ∧
  Seq C c81_21 c81_22 .ret ∧
  Cond C c81_20 t20 c81_21 .skip ∧
  Seq C c81_18 c81_19 c81_20 ∧
  Seq C c81_16 c81_17 c81_18 ∧
  Blk C c81_15 1 c81_16 ∧
  Reg C c81_23 ∧
  R1 c81_23 0 1 21 (.binOp .add 3 t13 (.const (.int .i64 1)) 3) ∧
  R1 c81_23 1 2 13 (.move t21) ∧
  RE c81_23 2 ∧
  Seq C c81_14 c81_15 c81_23 ∧
  Seq C c81_12 c81_13 c81_14 ∧
  Seq C c81_10 c81_11 c81_12 ∧
  Lp C c81_9 c81_10 ∧
  Blk C c81_8 0 c81_9 ∧
  Seq C c81_6 c81_7 c81_8 ∧
  Reg C c81_26 ∧
  R1 c81_26 0 1 22 (.move t5) ∧
  R1 c81_26 1 2 23 (.call ⟨.builtin .len, #[t22], #[23]⟩) ∧
  R1 c81_26 2 3 24 (.move t1) ∧
  R1 c81_26 3 4 25 (.call ⟨.builtin .max, #[t24, .const (.int .i64 0)], #[3, 3]⟩) ∧
  R1 c81_26 4 5 26 (.binOp .neq 3 t23 t25 3) ∧
  RE c81_26 5 ∧
  Reg C c81_29 ∧
  R1 c81_29 0 1 4 (.assign (.const (.int .i64 11))) ∧
  RE c81_29 1 ∧
  Seq C c81_28 c81_29 .ret ∧
  Cond C c81_27 t26 c81_28 .skip ∧
  Seq C c81_25 c81_26 c81_27 ∧
  Reg C c81_31 ∧
  R1 c81_31 0 1 4 (.assign (.const (.int .i64 0))) ∧
  RE c81_31 1 ∧
  Seq C c81_30 c81_31 .ret ∧
  Seq C c81_24 c81_25 c81_30 ∧
  Seq C c81_5 c81_6 c81_24 ∧
  Seq C c81_3 c81_4 c81_5 ∧
  Seq C c81_1 c81_2 c81_3 :=
  ⟨reg_mk rfl, row1 rfl, rowE rfl, reg_mk rfl, row1 rfl, row1 rfl, row1 rfl, row1 rfl, rowE rfl, reg_mk rfl, row1 rfl, row1 rfl, row1 rfl, rowE rfl, reg_mk rfl, row1 rfl, rowE rfl, cond_mk rfl, reg_mk rfl, row1 rfl, row1 rfl, row1 rfl, row1 rfl, row1 rfl, rowE rfl, reg_mk rfl, row1 rfl, row1 rfl, row1 rfl, rowE rfl, reg_mk rfl, row1 rfl, rowE rfl, seq_mk rfl, cond_mk rfl, seq_mk rfl, seq_mk rfl, blk_mk rfl, reg_mk rfl, row1 rfl, row1 rfl, rowE rfl, seq_mk rfl, seq_mk rfl, seq_mk rfl, lp_mk rfl, blk_mk rfl, seq_mk rfl, reg_mk rfl, row1 rfl, row1 rfl, row1 rfl, row1 rfl, row1 rfl, rowE rfl, reg_mk rfl, row1 rfl, rowE rfl, seq_mk rfl, cond_mk rfl, seq_mk rfl, reg_mk rfl, row1 rfl, rowE rfl, seq_mk rfl, seq_mk rfl, seq_mk rfl, seq_mk rfl, seq_mk rfl⟩
theorem body81 : Try.f81.body = some c81_1 := rfl
/-! slices.Values[[]int,int] -/
noncomputable def c84_1 : Code := (Try.f84.body).getD .skip
noncomputable def c84_2 : Code := kid c84_1 0
noncomputable def c84_3 : Code := kid c84_1 1
noncomputable def c84_4 : Code := kid c84_3 0
@[go_sem] theorem w84 : Reg C c84_2 ∧
  R1 c84_2 0 1 1 (.box 23 t0) ∧
  R1 c84_2 1 2 2 (.assign (.const .nilFunc)) ∧
  RE c84_2 2 ∧
  Reg C c84_4 ∧
  R1 c84_4 0 1 3 (.makeFunc (.func 87) #[] #[t1]) ∧
  R1 c84_4 1 2 2 (.assign t3) ∧
  RE c84_4 2 ∧
  Seq C c84_3 c84_4 .ret ∧
  Seq C c84_1 c84_2 c84_3 :=
  ⟨reg_mk rfl, row1 rfl, row1 rfl, rowE rfl, reg_mk rfl, row1 rfl, row1 rfl, rowE rfl, seq_mk rfl, seq_mk rfl⟩
theorem body84 : Try.f84.body = some c84_1 := rfl
/-! slices.Values[[]int,int]$1 -/
noncomputable def c87_1 : Code := (Try.f87.body).getD .skip
noncomputable def c87_2 : Code := kid c87_1 0
noncomputable def c87_3 : Code := kid c87_1 1
noncomputable def c87_4 : Code := kid c87_3 0
noncomputable def c87_5 : Code := kid c87_4 0
noncomputable def c87_6 : Code := kid c87_5 0
noncomputable def c87_7 : Code := kid c87_5 1
noncomputable def c87_8 : Code := kid c87_7 0
noncomputable def c87_9 : Code := kid c87_7 1
noncomputable def c87_10 : Code := kid c87_9 0
noncomputable def c87_11 : Code := kid c87_10 0
noncomputable def c87_12 : Code := kid c87_11 0
noncomputable def c87_13 : Code := kid c87_11 1
noncomputable def c87_14 : Code := kid c87_13 0
noncomputable def c87_15 : Code := kid c87_13 1
noncomputable def c87_16 : Code := kid c87_9 1
@[go_sem] theorem w87 : Reg C c87_2 ∧
  R1 c87_2 0 1 5 (.load 23 t1) ∧
  R1 c87_2 1 2 6 (.call ⟨.builtin .len, #[t5], #[23]⟩) ∧
  R1 c87_2 2 3 7 (.move (.const (.int .i64 0))) ∧
  RE c87_2 3 ∧
  Reg C c87_6 ∧
  R1 c87_6 0 1 8 (.binOp .lss 3 t7 t6 3) ∧
  RE c87_6 1 ∧
  Cond C c87_8 t8 .skip (.exit 0) ∧
  Reg C c87_12 ∧
  R1 c87_12 0 1 9 (.indexAddr 23 t5 t7) ∧
  R1 c87_12 1 2 10 (.load 3 t9) ∧
  R1 c87_12 2 3 4 (.assign t10) ∧
  RE c87_12 3 ∧
  Reg C c87_14 ∧
  R1 c87_14 0 1 11 (.move t0) ∧
  R1 c87_14 1 2 12 (.move t4) ∧
  R1 c87_14 2 3 13 (.call ⟨.value t11, #[t12], #[3]⟩) ∧
  R1 c87_14 3 4 14 (.unOp .not 4 t13) ∧
  RE c87_14 4 ∧
  Cond C c87_15 t14 .ret .skip ∧
  Seq C c87_13 c87_14 c87_15 ∧
  Seq C c87_11 c87_12 c87_13 ∧
  Blk C c87_10 1 c87_11 ∧
  Reg C c87_16 ∧
  R1 c87_16 0 1 15 (.binOp .add 3 t7 (.const (.int .i64 1)) 3) ∧
  R1 c87_16 1 2 7 (.move t15) ∧
  RE c87_16 2 ∧
  Seq C c87_9 c87_10 c87_16 ∧
  Seq C c87_7 c87_8 c87_9 ∧
  Seq C c87_5 c87_6 c87_7 ∧
  Lp C c87_4 c87_5 ∧
  Blk C c87_3 0 c87_4 ∧
  Seq C c87_1 c87_2 c87_3 :=
  ⟨reg_mk rfl, row1 rfl, row1 rfl, row1 rfl, rowE rfl, reg_mk rfl, row1 rfl, rowE rfl, cond_mk rfl, reg_mk rfl, row1 rfl, row1 rfl, row1 rfl, rowE rfl, reg_mk rfl, row1 rfl, row1 rfl, row1 rfl, row1 rfl, rowE rfl, cond_mk rfl, seq_mk rfl, seq_mk rfl, blk_mk rfl, reg_mk rfl, row1 rfl, row1 rfl, rowE rfl, seq_mk rfl, seq_mk rfl, seq_mk rfl, lp_mk rfl, blk_mk rfl, seq_mk rfl⟩
theorem body87 : Try.f87.body = some c87_1 := rfl
/-! slices.Sorted[int] -/
noncomputable def c83_1 : Code := (Try.f83.body).getD .skip
noncomputable def c83_2 : Code := kid c83_1 0
noncomputable def c83_3 : Code := kid c83_1 1
noncomputable def c83_4 : Code := kid c83_3 0
noncomputable def c83_5 : Code := kid c83_3 1
noncomputable def c83_6 : Code := kid c83_5 0
noncomputable def c83_7 : Code := kid c83_5 1
noncomputable def c83_8 : Code := kid c83_7 0
@[go_sem] theorem w83 : Reg C c83_2 ∧
  R1 c83_2 0 1 2 (.assign (.const (.slice none 0 0))) ∧
  RE c83_2 1 ∧
  Reg C c83_4 ∧
  R1 c83_4 0 1 4 (.move t0) ∧
  R1 c83_4 1 2 5 (.call ⟨.value (.func 85), #[t4], #[98]⟩) ∧
  R1 c83_4 2 3 3 (.assign t5) ∧
  RE c83_4 3 ∧
  Reg C c83_6 ∧
  R1 c83_6 0 1 6 (.move t3) ∧
  R1 c83_6 1 2 7 (.call ⟨.value (.func 86), #[t6], #[23]⟩) ∧
  RE c83_6 2 ∧
  Reg C c83_8 ∧
  R1 c83_8 0 1 8 (.move t3) ∧
  R1 c83_8 1 2 2 (.assign t8) ∧
  RE c83_8 2 ∧
  Seq C c83_7 c83_8 .ret ∧
  Seq C c83_5 c83_6 c83_7 ∧
  Seq C c83_3 c83_4 c83_5 ∧
  Seq C c83_1 c83_2 c83_3 :=
  ⟨reg_mk rfl, row1 rfl, rowE rfl, reg_mk rfl, row1 rfl, row1 rfl, row1 rfl, rowE rfl, reg_mk rfl, row1 rfl, row1 rfl, rowE rfl, reg_mk rfl, row1 rfl, row1 rfl, rowE rfl, seq_mk rfl, seq_mk rfl, seq_mk rfl, seq_mk rfl⟩
theorem body83 : Try.f83.body = some c83_1 := rfl
/-! slices.Collect[int] -/
noncomputable def c85_1 : Code := (Try.f85.body).getD .skip
noncomputable def c85_2 : Code := kid c85_1 0
noncomputable def c85_3 : Code := kid c85_1 1
noncomputable def c85_4 : Code := kid c85_3 0
@[go_sem] theorem w85 : Reg C c85_2 ∧
  R1 c85_2 0 1 2 (.assign (.const (.slice none 0 0))) ∧
  RE c85_2 1 ∧
  Reg C c85_4 ∧
  R1 c85_4 0 1 3 (.move t0) ∧
  R1 c85_4 1 2 4 (.call ⟨.value (.func 88), #[.const (.slice none 0 0), t3], #[23, 98]⟩) ∧
  R1 c85_4 2 3 2 (.assign t4) ∧
  RE c85_4 3 ∧
  Seq C c85_3 c85_4 .ret ∧
  Seq C c85_1 c85_2 c85_3 :=
  ⟨reg_mk rfl, row1 rfl, rowE rfl, reg_mk rfl, row1 rfl, row1 rfl, row1 rfl, rowE rfl, seq_mk rfl, seq_mk rfl⟩
theorem body85 : Try.f85.body = some c85_1 := rfl
/-! slices.AppendSeq[[]int,int] -/
noncomputable def c88_1 : Code := (Try.f88.body).getD .skip
noncomputable def c88_2 : Code := kid c88_1 0
noncomputable def c88_3 : Code := kid c88_1 1
noncomputable def c88_4 : Code := kid c88_3 0
noncomputable def c88_5 : Code := kid c88_4 0
noncomputable def c88_6 : Code := kid c88_4 1
noncomputable def c88_7 : Code := kid c88_6 0
noncomputable def c88_8 : Code := kid c88_7 0
noncomputable def c88_9 : Code := kid c88_7 1
noncomputable def c88_10 : Code := kid c88_9 0
noncomputable def c88_11 : Code := kid c88_3 1
noncomputable def c88_12 : Code := kid c88_11 0
@[go_sem] theorem w88 : Reg C c88_2 ∧
  R1 c88_2 0 1 2 (.box 23 t0) ∧
  R1 c88_2 1 2 4 (.assign (.const (.slice none 0 0))) ∧
  RE c88_2 2 ∧
  Reg C c88_5 ∧
  R1 c88_5 0 1 6 (.move t1) ∧
  RE c88_5 1 ∧
  Reg C c88_8 ∧
  R1 c88_8 0 1 5 (.assign t7) ∧
  RE c88_8 1 ∧
  Reg C c88_10 ∧
  R1 c88_10 0 1 8 (.load 23 t2) ∧
  R1 c88_10 1 2 9 (.move t5) ∧
  R1 c88_10 2 3 10 (.buildSlice 23 1 #[(0, t9)]) ∧
  R1 c88_10 3 4 11 (.call ⟨.builtin .append, #[t8, t10], #[23, 23]⟩) ∧
  R0 c88_10 4 5 (.store 23 t2 t11) ∧
  RE c88_10 5 ∧
  Blk C c88_9 1 c88_10 ∧
  Rng C c88_7 t6 #[7] c88_8 c88_9 ∧
  Blk C c88_6 0 c88_7 ∧
  Seq C c88_4 c88_5 c88_6 ∧
  Reg C c88_12 ∧
  R1 c88_12 0 1 12 (.load 23 t2) ∧
  R1 c88_12 1 2 4 (.assign t12) ∧
  RE c88_12 2 ∧
  Seq C c88_11 c88_12 .ret ∧
  Seq C c88_3 c88_4 c88_11 ∧
  Seq C c88_1 c88_2 c88_3 :=
  ⟨reg_mk rfl, row1 rfl, row1 rfl, rowE rfl, reg_mk rfl, row1 rfl, rowE rfl, reg_mk rfl, row1 rfl, rowE rfl, reg_mk rfl, row1 rfl, row1 rfl, row1 rfl, row1 rfl, row0 rfl, rowE rfl, blk_mk rfl, rng_mk rfl, blk_mk rfl, seq_mk rfl, reg_mk rfl, row1 rfl, row1 rfl, rowE rfl, seq_mk rfl, seq_mk rfl, seq_mk rfl⟩
theorem body88 : Try.f88.body = some c88_1 := rfl
/-! slices.Sort[[]int,int] -/
noncomputable def c86_1 : Code := (Try.f86.body).getD .skip
noncomputable def c86_2 : Code := kid c86_1 0
noncomputable def c86_3 : Code := kid c86_1 1
@[go_sem] theorem w86 : Reg C c86_2 ∧
  R1 c86_2 0 1 3 (.move t0) ∧
  R1 c86_2 1 2 4 (.call ⟨.builtin .len, #[t3], #[23]⟩) ∧
  R1 c86_2 2 3 2 (.assign t4) ∧
  RE c86_2 3 ∧
  Reg C c86_3 ∧
  R1 c86_3 0 1 5 (.move t0) ∧
  R1 c86_3 1 2 6 (.move t2) ∧
  R1 c86_3 2 3 7 (.move t2) ∧
  R1 c86_3 3 4 8 (.convert 3 103 t7) ∧
  R1 c86_3 4 5 9 (.call ⟨.value (.func 90), #[t8], #[103]⟩) ∧
  R1 c86_3 5 6 10 (.call ⟨.value (.func 89), #[t5, .const (.int .i64 0), t6, t9], #[23, 3, 3, 3]⟩) ∧
  RE c86_3 6 ∧
  Seq C c86_1 c86_2 c86_3 :=
  ⟨reg_mk rfl, row1 rfl, row1 rfl, row1 rfl, rowE rfl, reg_mk rfl, row1 rfl, row1 rfl, row1 rfl, row1 rfl, row1 rfl, row1 rfl, rowE rfl, seq_mk rfl⟩
theorem body86 : Try.f86.body = some c86_1 := rfl
/-! slices.pdqsortOrdered[int] -/
noncomputable def c89_1 : Code := (Try.f89.body).getD .skip
noncomputable def c89_2 : Code := kid c89_1 0
noncomputable def c89_3 : Code := kid c89_1 1
noncomputable def c89_4 : Code := kid c89_3 0
noncomputable def c89_5 : Code := kid c89_3 1
noncomputable def c89_6 : Code := kid c89_5 0
noncomputable def c89_7 : Code := kid c89_6 0
noncomputable def c89_8 : Code := kid c89_7 0
noncomputable def c89_9 : Code := kid c89_8 0
noncomputable def c89_10 : Code := kid c89_8 1
noncomputable def c89_11 : Code := kid c89_10 0
noncomputable def c89_12 : Code := kid c89_11 0
noncomputable def c89_13 : Code := kid c89_11 1
noncomputable def c89_14 : Code := kid c89_13 0
noncomputable def c89_15 : Code := kid c89_14 0
noncomputable def c89_16 : Code := kid c89_10 1
noncomputable def c89_17 : Code := kid c89_16 0
noncomputable def c89_18 : Code := kid c89_17 0
noncomputable def c89_19 : Code := kid c89_17 1
noncomputable def c89_20 : Code := kid c89_19 0
noncomputable def c89_21 : Code := kid c89_20 0
noncomputable def c89_22 : Code := kid c89_16 1
noncomputable def c89_23 : Code := kid c89_22 0
noncomputable def c89_24 : Code := kid c89_23 0
noncomputable def c89_25 : Code := kid c89_23 1
noncomputable def c89_26 : Code := kid c89_25 0
noncomputable def c89_27 : Code := kid c89_26 0
noncomputable def c89_28 : Code := kid c89_26 1
noncomputable def c89_29 : Code := kid c89_22 1
noncomputable def c89_30 : Code := kid c89_29 0
noncomputable def c89_31 : Code := kid c89_29 1
noncomputable def c89_32 : Code := kid c89_31 0
noncomputable def c89_33 : Code := kid c89_32 0
noncomputable def c89_34 : Code := kid c89_32 1
noncomputable def c89_35 : Code := kid c89_34 0
noncomputable def c89_36 : Code := kid c89_35 0
noncomputable def c89_37 : Code := kid c89_35 1
noncomputable def c89_38 : Code := kid c89_37 0
noncomputable def c89_39 : Code := kid c89_37 1
noncomputable def c89_40 : Code := kid c89_31 1
noncomputable def c89_41 : Code := kid c89_40 0
noncomputable def c89_42 : Code := kid c89_41 0
noncomputable def c89_43 : Code := kid c89_41 1
noncomputable def c89_44 : Code := kid c89_43 0
noncomputable def c89_45 : Code := kid c89_44 0
noncomputable def c89_46 : Code := kid c89_44 1
noncomputable def c89_47 : Code := kid c89_40 1
noncomputable def c89_48 : Code := kid c89_47 0
noncomputable def c89_49 : Code := kid c89_48 0
noncomputable def c89_50 : Code := kid c89_48 1
noncomputable def c89_51 : Code := kid c89_50 0
noncomputable def c89_52 : Code := kid c89_51 0
noncomputable def c89_53 : Code := kid c89_51 1
noncomputable def c89_54 : Code := kid c89_53 0
noncomputable def c89_55 : Code := kid c89_47 1
noncomputable def c89_56 : Code := kid c89_55 0
noncomputable def c89_57 : Code := kid c89_55 1
noncomputable def c89_58 : Code := kid c89_57 0
noncomputable def c89_59 : Code := kid c89_57 1
noncomputable def c89_60 : Code := kid c89_59 0
noncomputable def c89_61 : Code := kid c89_59 1
noncomputable def c89_62 : Code := kid c89_61 0
noncomputable def c89_63 : Code := kid c89_61 1
noncomputable def c89_64 : Code := kid c89_63 0
noncomputable def c89_65 : Code := kid c89_63 1
noncomputable def c89_66 : Code := kid c89_65 0
noncomputable def c89_67 : Code := kid c89_66 0
noncomputable def c89_68 : Code := kid c89_66 1
noncomputable def c89_69 : Code := kid c89_68 0
noncomputable def c89_70 : Code := kid c89_68 1
noncomputable def c89_71 : Code := kid c89_65 1
noncomputable def c89_72 : Code := kid c89_71 0
noncomputable def c89_73 : Code := kid c89_71 1
noncomputable def c89_74 : Code := kid c89_73 0
noncomputable def c89_75 : Code := kid c89_73 1
@[go_sem] theorem w89 : Reg C c89_2 ∧
  R1 c89_2 0 1 8 (.assign (.const (.bool true))) ∧
  RE c89_2 1 ∧
  Reg C c89_4 ∧
  R1 c89_4 0 1 9 (.assign (.const (.bool true))) ∧
  RE c89_4 1 ∧
  Reg C c89_9 ∧
  R1 c89_9 0 1 19 (.move t2) ∧
  R1 c89_9 1 2 20 (.move t1) ∧
  R1 c89_9 2 3 21 (.binOp .sub 3 t19 t20 3) ∧
  R1 c89_9 3 4 10 (.assign t21) ∧
  RE c89_9 4 ∧
  Reg C c89_12 ∧
  R1 c89_12 0 1 22 (.move t10) ∧
  R1 c89_12 1 2 23 (.binOp .leq 3 t22 (.const (.int .i64 12)) 3) ∧
  RE c89_12 2 ∧
  Reg C c89_15 ∧
  R1 c89_15 0 1 24 (.move t0) ∧
  R1 c89_15 1 2 25 (.move t1) ∧
  R1 c89_15 2 3 26 (.move t2) ∧
  R1 c89_15 3 4 27 (.call ⟨.value (.func 91), #[t24, t25, t26], #[23, 3, 3]⟩) ∧
  RE c89_15 4 ∧
  Seq C c89_14 c89_15 .ret ∧
  Cond C c89_13 t23 c89_14 .skip ∧
  Seq C c89_11 c89_12 c89_13 ∧
  Reg C c89_18 ∧
  R1 c89_18 0 1 28 (.move t3) ∧
  R1 c89_18 1 2 29 (.binOp .eql 3 t28 (.const (.int .i64 0)) 3) ∧
  RE c89_18 2 ∧
  Reg C c89_21 ∧
  R1 c89_21 0 1 30 (.move t0) ∧
  R1 c89_21 1 2 31 (.move t1) ∧
  R1 c89_21 2 3 32 (.move t2) ∧
  R1 c89_21 3 4 33 (.call ⟨.value (.func 92), #[t30, t31, t32], #[23, 3, 3]⟩) ∧
  RE c89_21 4 ∧
  Seq C c89_20 c89_21 .ret ∧
  Cond C c89_19 t29 c89_20 .skip ∧
  Seq C c89_17 c89_18 c89_19 ∧
  Reg C c89_24 ∧
  R1 c89_24 0 1 34 (.move t8) ∧
  R1 c89_24 1 2 35 (.unOp .not 4 t34) ∧
  RE c89_24 2 ∧
  Reg C c89_27 ∧
  R1 c89_27 0 1 36 (.move t0) ∧
  R1 c89_27 1 2 37 (.move t1) ∧
  R1 c89_27 2 3 38 (.move t2) ∧
  R1 c89_27 3 4 39 (.call ⟨.value (.func 93), #[t36, t37, t38], #[23, 3, 3]⟩) ∧
  RE c89_27 4 ∧
  Reg C c89_28 ∧
  R1 c89_28 0 1 40 (.move t3) ∧
  R1 c89_28 1 2 41 (.binOp .sub 3 t40 (.const (.int .i64 1)) 3) ∧
  R1 c89_28 2 3 3 (.assign t41) ∧
  RE c89_28 3 ∧
  Seq C c89_26 c89_27 c89_28 ∧
  Cond C c89_25 t35 c89_26 .skip ∧
  Seq C c89_23 c89_24 c89_25 ∧
  Reg C c89_30 ∧
  R1 c89_30 0 1 43 (.move t0) ∧
  R1 c89_30 1 2 44 (.move t1) ∧
  R1 c89_30 2 3 45 (.move t2) ∧
  R1 c89_30 3 4 46 (.call ⟨.value (.func 94), #[t43, t44, t45], #[23, 3, 3]⟩) ∧
  R1 c89_30 4 5 42 (.move t46) ∧
  R1 c89_30 5 6 47 (.extract t42 0) ∧
  R1 c89_30 6 7 48 (.extract t42 1) ∧
  R1 c89_30 7 8 11 (.assign t47) ∧
  R1 c89_30 8 9 12 (.assign t48) ∧
  RE c89_30 9 ∧
  Reg C c89_33 ∧
  R1 c89_33 0 1 49 (.move t12) ∧
  R1 c89_33 1 2 50 (.binOp .eql 105 t49 (.const (.int .i64 2)) 105) ∧
  RE c89_33 2 ∧
  Reg C c89_36 ∧
  R1 c89_36 0 1 51 (.move t0) ∧
  R1 c89_36 1 2 52 (.move t1) ∧
  R1 c89_36 2 3 53 (.move t2) ∧
  R1 c89_36 3 4 54 (.call ⟨.value (.func 95), #[t51, t52, t53], #[23, 3, 3]⟩) ∧
  RE c89_36 4 ∧
  Reg C c89_38 ∧
  R1 c89_38 0 1 55 (.move t2) ∧
  R1 c89_38 1 2 56 (.binOp .sub 3 t55 (.const (.int .i64 1)) 3) ∧
  R1 c89_38 2 3 57 (.move t11) ∧
  R1 c89_38 3 4 58 (.move t1) ∧
  R1 c89_38 4 5 59 (.binOp .sub 3 t57 t58 3) ∧
  R1 c89_38 5 6 60 (.binOp .sub 3 t56 t59 3) ∧
  R1 c89_38 6 7 11 (.assign t60) ∧
  RE c89_38 7 ∧
  Reg C c89_39 ∧
  R1 c89_39 0 1 12 (.assign (.const (.int .i64 1))) ∧
  RE c89_39 1 ∧
  Seq C c89_37 c89_38 c89_39 ∧
  Seq C c89_35 c89_36 c89_37 ∧
  Cond C c89_34 t50 c89_35 .skip ∧
  Seq C c89_32 c89_33 c89_34 ∧
  Reg C c89_42 ∧
  R1 c89_42 0 1 61 (.move t8) ∧
  R1 c89_42 1 2 62 (.move t61) ∧
  RG c89_42 2 3 (some 63) (.move t9) 62 true ∧
  R1 c89_42 3 4 64 (.pick t62 t63 (.const (.bool false))) ∧
  R1 c89_42 4 5 65 (.move t64) ∧
  RG c89_42 5 6 (some 66) (.move t12) 65 true ∧
  RG c89_42 6 7 (some 67) (.binOp .eql 105 t66 (.const (.int .i64 1)) 105) 65 true ∧
  R1 c89_42 7 8 68 (.pick t65 t67 (.const (.bool false))) ∧
  RE c89_42 8 ∧
  Reg C c89_45 ∧
  R1 c89_45 0 1 69 (.move t0) ∧
  R1 c89_45 1 2 70 (.move t1) ∧
  R1 c89_45 2 3 71 (.move t2) ∧
  R1 c89_45 3 4 72 (.call ⟨.value (.func 96), #[t69, t70, t71], #[23, 3, 3]⟩) ∧
  RE c89_45 4 ∧
  Cond C c89_46 t72 .ret .skip ∧
  Seq C c89_44 c89_45 c89_46 ∧
  Cond C c89_43 t68 c89_44 .skip ∧
  Seq C c89_41 c89_42 c89_43 ∧
  Draw C c89_49 ∧
  D1 c89_49 0 1 73 (.move t1) ∧
  D1 c89_49 1 2 74 (.binOp .gtr 3 t73 (.const (.int .i64 0)) 3) ∧
  D1 c89_49 2 3 75 (.move t74) ∧
  DG c89_49 3 4 (some 76) (.move t0) 75 true ∧
  DG c89_49 4 5 (some 77) (.move t1) 75 true ∧
  DG c89_49 5 6 (some 78) (.binOp .sub 3 t77 (.const (.int .i64 1)) 3) 75 true ∧
  DG c89_49 6 7 (some 79) (.indexAddr 23 t76 t78) 75 true ∧
  DG c89_49 7 8 (some 80) (.load 3 t79) 75 true ∧
  DG c89_49 8 9 (some 81) (.move t0) 75 true ∧
  DG c89_49 9 10 (some 82) (.move t11) 75 true ∧
  DG c89_49 10 11 (some 83) (.indexAddr 23 t81 t82) 75 true ∧
  DG c89_49 11 12 (some 84) (.load 3 t83) 75 true ∧
  DG c89_49 12 13 (some 85) (.call ⟨.value (.func 97), #[t80, t84], #[3, 3]⟩) 75 true ∧
  DG c89_49 13 14 (some 86) (.unOp .not 4 t85) 75 true ∧
  D1 c89_49 14 15 87 (.pick t75 t86 (.const (.bool false))) ∧
  DE c89_49 15 ∧
  Reg C c89_52 ∧
  R1 c89_52 0 1 88 (.move t0) ∧
  R1 c89_52 1 2 89 (.move t1) ∧
  R1 c89_52 2 3 90 (.move t2) ∧
  R1 c89_52 3 4 91 (.move t11) ∧
  R1 c89_52 4 5 92 (.call ⟨.value (.func 98), #[t88, t89, t90, t91], #[23, 3, 3, 3]⟩) ∧
  R1 c89_52 5 6 13 (.assign t92) ∧
  RE c89_52 6 ∧
  Reg C c89_54 ∧
  R1 c89_54 0 1 93 (.move t13) ∧
  R1 c89_54 1 2 1 (.assign t93) ∧
  RE c89_54 2 ∧
  Seq C c89_53 c89_54 (.exit 1) ∧
  Seq C c89_51 c89_52 c89_53 ∧
  Cond C c89_50 t87 c89_51 .skip ∧
  Seq C c89_48 c89_49 c89_50 ∧
  Reg C c89_56 ∧
  R1 c89_56 0 1 95 (.move t0) ∧
  R1 c89_56 1 2 96 (.move t1) ∧
  R1 c89_56 2 3 97 (.move t2) ∧
  R1 c89_56 3 4 98 (.move t11) ∧
  R1 c89_56 4 5 99 (.call ⟨.value (.func 99), #[t95, t96, t97, t98], #[23, 3, 3, 3]⟩) ∧
  R1 c89_56 5 6 94 (.move t99) ∧
  R1 c89_56 6 7 100 (.extract t94 0) ∧
  R1 c89_56 7 8 101 (.extract t94 1) ∧
  R1 c89_56 8 9 14 (.assign t100) ∧
  R1 c89_56 9 10 15 (.assign t101) ∧
  RE c89_56 10 ∧
  Reg C c89_58 ∧
  R1 c89_58 0 1 102 (.move t15) ∧
  R1 c89_58 1 2 9 (.assign t102) ∧
  RE c89_58 2 ∧
  Reg C c89_60 ∧
  R1 c89_60 0 1 103 (.move t14) ∧
  R1 c89_60 1 2 104 (.move t1) ∧
  R1 c89_60 2 3 105 (.binOp .sub 3 t103 t104 3) ∧
  R1 c89_60 3 4 106 (.move t2) ∧
  R1 c89_60 4 5 107 (.move t14) ∧
  R1 c89_60 5 6 108 (.binOp .sub 3 t106 t107 3) ∧
  R1 c89_60 6 7 16 (.assign t105) ∧
  R1 c89_60 7 8 17 (.assign t108) ∧
  RE c89_60 8 ∧
  Reg C c89_62 ∧
  R1 c89_62 0 1 109 (.move t10) ∧
  R1 c89_62 1 2 110 (.binOp .quo 3 t109 (.const (.int .i64 8)) 3) ∧
  R1 c89_62 2 3 18 (.assign t110) ∧
  RE c89_62 3 ∧
  Reg C c89_64 ∧
  R1 c89_64 0 1 111 (.move t16) ∧
  R1 c89_64 1 2 112 (.move t17) ∧
  R1 c89_64 2 3 113 (.binOp .lss 3 t111 t112 3) ∧
  RE c89_64 3 ∧
  Reg C c89_67 ∧
  R1 c89_67 0 1 114 (.move t16) ∧
  R1 c89_67 1 2 115 (.move t18) ∧
  R1 c89_67 2 3 116 (.binOp .geq 3 t114 t115 3) ∧
  R1 c89_67 3 4 8 (.assign t116) ∧
  RE c89_67 4 ∧
  Reg C c89_69 ∧
  R1 c89_69 0 1 117 (.move t0) ∧
  R1 c89_69 1 2 118 (.move t1) ∧
  R1 c89_69 2 3 119 (.move t14) ∧
  R1 c89_69 3 4 120 (.move t3) ∧
  R1 c89_69 4 5 121 (.call ⟨.value (.func 89), #[t117, t118, t119, t120], #[23, 3, 3, 3]⟩) ∧
  RE c89_69 5 ∧
  Reg C c89_70 ∧
  R1 c89_70 0 1 122 (.move t14) ∧
  R1 c89_70 1 2 123 (.binOp .add 3 t122 (.const (.int .i64 1)) 3) ∧
  R1 c89_70 2 3 1 (.assign t123) ∧
  RE c89_70 3 ∧
  Seq C c89_68 c89_69 c89_70 ∧
  Seq C c89_66 c89_67 c89_68 ∧
  Reg C c89_72 ∧
  R1 c89_72 0 1 124 (.move t17) ∧
  R1 c89_72 1 2 125 (.move t18) ∧
  R1 c89_72 2 3 126 (.binOp .geq 3 t124 t125 3) ∧
  R1 c89_72 3 4 8 (.assign t126) ∧
  RE c89_72 4 ∧
  Reg C c89_74 ∧
  R1 c89_74 0 1 127 (.move t0) ∧
  R1 c89_74 1 2 128 (.move t14) ∧
  R1 c89_74 2 3 129 (.binOp .add 3 t128 (.const (.int .i64 1)) 3) ∧
  R1 c89_74 3 4 130 (.move t2) ∧
  R1 c89_74 4 5 131 (.move t3) ∧
  R1 c89_74 5 6 132 (.call ⟨.value (.func 89), #[t127, t129, t130, t131], #[23, 3, 3, 3]⟩) ∧
  RE c89_74 6 ∧
  Reg C c89_75 ∧
  R1 c89_75 0 1 133 (.move t14) ∧
  R1 c89_75 1 2 2 (.assign t133) ∧
  RE c89_75 2 ∧
  Seq C c89_73 c89_74 c89_75 ∧
  Seq C c89_71 c89_72 c89_73 ∧
  Cond C c89_65 t113 c89_66 c89_71 ∧
  Seq C c89_63 c89_64 c89_65 ∧
  Seq C c89_61 c89_62 c89_63 ∧
  Seq C c89_59 c89_60 c89_61 ∧
  Seq C c89_57 c89_58 c89_59 ∧
  Seq C c89_55 c89_56 c89_57 ∧
  Seq C c89_47 c89_48 c89_55 ∧
  Seq C c89_40 c89_41 c89_47 ∧
  Seq C c89_31 c89_32 c89_40 ∧
  Seq C c89_29 c89_30 c89_31 ∧
  Seq C c89_22 c89_23 c89_29 ∧
  Seq C c89_16 c89_17 c89_22 ∧
  Seq C c89_10 c89_11 c89_16 ∧
  Seq C c89_8 c89_9 c89_10 ∧
  Blk C c89_7 1 c89_8 ∧
  Lp C c89_6 c89_7 ∧
  Blk C c89_5 0 c89_6 ∧
  Seq C c89_3 c89_4 c89_5 ∧
  Seq C c89_1 c89_2 c89_3 :=
  ⟨reg_mk rfl, row1 rfl, rowE rfl, reg_mk rfl, row1 rfl, rowE rfl, reg_mk rfl, row1 rfl, row1 rfl, row1 rfl, row1 rfl, rowE rfl, reg_mk rfl, row1 rfl, row1 rfl, rowE rfl, reg_mk rfl, row1 rfl, row1 rfl, row1 rfl, row1 rfl, rowE rfl, seq_mk rfl, cond_mk rfl, seq_mk rfl, reg_mk rfl, row1 rfl, row1 rfl, rowE rfl, reg_mk rfl, row1 rfl, row1 rfl, row1 rfl, row1 rfl, rowE rfl, seq_mk rfl, cond_mk rfl, seq_mk rfl, reg_mk rfl, row1 rfl, row1 rfl, rowE rfl, reg_mk rfl, row1 rfl, row1 rfl, row1 rfl, row1 rfl, rowE rfl, reg_mk rfl, row1 rfl, row1 rfl, row1 rfl, rowE rfl, seq_mk rfl, cond_mk rfl, seq_mk rfl, reg_mk rfl, row1 rfl, row1 rfl, row1 rfl, row1 rfl, row1 rfl, row1 rfl, row1 rfl, row1 rfl, row1 rfl, rowE rfl, reg_mk rfl, row1 rfl, row1 rfl, rowE rfl, reg_mk rfl, row1 rfl, row1 rfl, row1 rfl, row1 rfl, rowE rfl, reg_mk rfl, row1 rfl, row1 rfl, row1 rfl, row1 rfl, row1 rfl, row1 rfl, row1 rfl, rowE rfl, reg_mk rfl, row1 rfl, rowE rfl, seq_mk rfl, seq_mk rfl, cond_mk rfl, seq_mk rfl, reg_mk rfl, row1 rfl, row1 rfl, rowG rfl rfl, row1 rfl, row1 rfl, rowG rfl rfl, rowG rfl rfl, row1 rfl, rowE rfl, reg_mk rfl, row1 rfl, row1 rfl, row1 rfl, row1 rfl, rowE rfl, cond_mk rfl, seq_mk rfl, cond_mk rfl, seq_mk rfl, draw_mk rfl, dow1 rfl, dow1 rfl, dow1 rfl, dowG rfl rfl, dowG rfl rfl, dowG rfl rfl, dowG rfl rfl, dowG rfl rfl, dowG rfl rfl, dowG rfl rfl, dowG rfl rfl, dowG rfl rfl, dowG rfl rfl, dowG rfl rfl, dow1 rfl, dowE rfl, reg_mk rfl, row1 rfl, row1 rfl, row1 rfl, row1 rfl, row1 rfl, row1 rfl, rowE rfl, reg_mk rfl, row1 rfl, row1 rfl, rowE rfl, seq_mk rfl, seq_mk rfl, cond_mk rfl, seq_mk rfl, reg_mk rfl, row1 rfl, row1 rfl, row1 rfl, row1 rfl, row1 rfl, row1 rfl, row1 rfl, row1 rfl, row1 rfl, row1 rfl, rowE rfl, reg_mk rfl, row1 rfl, row1 rfl, rowE rfl, reg_mk rfl, row1 rfl, row1 rfl, row1 rfl, row1 rfl, row1 rfl, row1 rfl, row1 rfl, row1 rfl, rowE rfl, reg_mk rfl, row1 rfl, row1 rfl, row1 rfl, rowE rfl, reg_mk rfl, row1 rfl, row1 rfl, row1 rfl, rowE rfl, reg_mk rfl, row1 rfl, row1 rfl, row1 rfl, row1 rfl, rowE rfl, reg_mk rfl, row1 rfl, row1 rfl, row1 rfl, row1 rfl, row1 rfl, rowE rfl, reg_mk rfl, row1 rfl, row1 rfl, row1 rfl, rowE rfl, seq_mk rfl, seq_mk rfl, reg_mk rfl, row1 rfl, row1 rfl, row1 rfl, row1 rfl, rowE rfl, reg_mk rfl, row1 rfl, row1 rfl, row1 rfl, row1 rfl, row1 rfl, row1 rfl, rowE rfl, reg_mk rfl, row1 rfl, row1 rfl, rowE rfl, seq_mk rfl, seq_mk rfl, cond_mk rfl, seq_mk rfl, seq_mk rfl, seq_mk rfl, seq_mk rfl, seq_mk rfl, seq_mk rfl, seq_mk rfl, seq_mk rfl, seq_mk rfl, seq_mk rfl, seq_mk rfl, seq_mk rfl, seq_mk rfl, blk_mk rfl, lp_mk rfl, blk_mk rfl, seq_mk rfl, seq_mk rfl⟩
theorem body89 : Try.f89.body = some c89_1 := rfl
/-! slices.insertionSortOrdered[int] -/
noncomputable def c91_1 : Code := (Try.f91.body).getD .skip
noncomputable def c91_2 : Code := kid c91_1 0
noncomputable def c91_3 : Code := kid c91_1 1
noncomputable def c91_4 : Code := kid c91_3 0
noncomputable def c91_5 : Code := kid c91_4 0
noncomputable def c91_6 : Code := kid c91_5 0
noncomputable def c91_7 : Code := kid c91_6 0
noncomputable def c91_8 : Code := kid c91_6 1
noncomputable def c91_9 : Code := kid c91_5 1
noncomputable def c91_10 : Code := kid c91_9 0
noncomputable def c91_11 : Code := kid c91_10 0
noncomputable def c91_12 : Code := kid c91_11 0
noncomputable def c91_13 : Code := kid c91_11 1
noncomputable def c91_14 : Code := kid c91_13 0
noncomputable def c91_15 : Code := kid c91_14 0
noncomputable def c91_16 : Code := kid c91_15 0
noncomputable def c91_17 : Code := kid c91_16 0
noncomputable def c91_18 : Code := kid c91_16 1
noncomputable def c91_19 : Code := kid c91_15 1
noncomputable def c91_20 : Code := kid c91_19 0
noncomputable def c91_21 : Code := kid c91_20 0
noncomputable def c91_22 : Code := kid c91_19 1
noncomputable def c91_23 : Code := kid c91_9 1
@[go_sem] theorem w91 : Reg C c91_2 ∧
  R1 c91_2 0 1 8 (.move t1) ∧
  R1 c91_2 1 2 9 (.binOp .add 3 t8 (.const (.int .i64 1)) 3) ∧
  R1 c91_2 2 3 6 (.assign t9) ∧
  RE c91_2 3 ∧
  Reg C c91_7 ∧
  R1 c91_7 0 1 10 (.move t6) ∧
  R1 c91_7 1 2 11 (.move t2) ∧
  R1 c91_7 2 3 12 (.binOp .lss 3 t10 t11 3) ∧
  RE c91_7 3 ∧
  Cond C c91_8 t12 .skip (.exit 0) ∧
  Seq C c91_6 c91_7 c91_8 ∧
  Reg C c91_12 ∧
  R1 c91_12 0 1 15 (.move t6) ∧
  R1 c91_12 1 2 7 (.assign t15) ∧
  RE c91_12 2 ∧
  Draw C c91_17 ∧
  D1 c91_17 0 1 16 (.move t7) ∧
  D1 c91_17 1 2 17 (.move t1) ∧
  D1 c91_17 2 3 18 (.binOp .gtr 3 t16 t17 3) ∧
  D1 c91_17 3 4 19 (.move t18) ∧
  DG c91_17 4 5 (some 20) (.move t0) 19 true ∧
  DG c91_17 5 6 (some 21) (.move t7) 19 true ∧
  DG c91_17 6 7 (some 22) (.indexAddr 23 t20 t21) 19 true ∧
  DG c91_17 7 8 (some 23) (.load 3 t22) 19 true ∧
  DG c91_17 8 9 (some 24) (.move t0) 19 true ∧
  DG c91_17 9 10 (some 25) (.move t7) 19 true ∧
  DG c91_17 10 11 (some 26) (.binOp .sub 3 t25 (.const (.int .i64 1)) 3) 19 true ∧
  DG c91_17 11 12 (some 27) (.indexAddr 23 t24 t26) 19 true ∧
  DG c91_17 12 13 (some 28) (.load 3 t27) 19 true ∧
  DG c91_17 13 14 (some 29) (.call ⟨.value (.func 97), #[t23, t28], #[3, 3]⟩) 19 true ∧
  D1 c91_17 14 15 30 (.pick t19 t29 (.const (.bool false))) ∧
  DE c91_17 15 ∧
  Cond C c91_18 t30 .skip (.exit 2) ∧
  Seq C c91_16 c91_17 c91_18 ∧
  Draw C c91_21 ∧
  D1 c91_21 0 1 33 (.move t0) ∧
  D1 c91_21 1 2 34 (.move t7) ∧
  D1 c91_21 2 3 35 (.move t0) ∧
  D1 c91_21 3 4 36 (.move t7) ∧
  D1 c91_21 4 5 37 (.binOp .sub 3 t36 (.const (.int .i64 1)) 3) ∧
  D1 c91_21 5 6 38 (.move t0) ∧
  D1 c91_21 6 7 39 (.move t7) ∧
  D1 c91_21 7 8 40 (.binOp .sub 3 t39 (.const (.int .i64 1)) 3) ∧
  D1 c91_21 8 9 41 (.indexAddr 23 t38 t40) ∧
  D1 c91_21 9 10 42 (.load 3 t41) ∧
  D1 c91_21 10 11 43 (.move t0) ∧
  D1 c91_21 11 12 44 (.move t7) ∧
  D1 c91_21 12 13 45 (.indexAddr 23 t43 t44) ∧
  D1 c91_21 13 14 46 (.load 3 t45) ∧
  D1 c91_21 14 15 47 (.indexAddr 23 t33 t34) ∧
  D0 c91_21 15 16 (.store 3 t47 t42) ∧
  D1 c91_21 16 17 48 (.indexAddr 23 t35 t37) ∧
  D0 c91_21 17 18 (.store 3 t48 t46) ∧
  DE c91_21 18 ∧
  Blk C c91_20 3 c91_21 ∧
  Reg C c91_22 ∧
  R1 c91_22 0 1 31 (.move t7) ∧
  R1 c91_22 1 2 32 (.binOp .sub 3 t31 (.const (.int .i64 1)) 3) ∧
  R1 c91_22 2 3 7 (.assign t32) ∧
  RE c91_22 3 ∧
  Seq C c91_19 c91_20 c91_22 ∧
  Seq C c91_15 c91_16 c91_19 ∧
  Lp C c91_14 c91_15 ∧
  Blk C c91_13 2 c91_14 ∧
  Seq C c91_11 c91_12 c91_13 ∧
  Blk C c91_10 1 c91_11 ∧
  Reg C c91_23 ∧
  R1 c91_23 0 1 13 (.move t6) ∧
  R1 c91_23 1 2 14 (.binOp .add 3 t13 (.const (.int .i64 1)) 3) ∧
  R1 c91_23 2 3 6 (.assign t14) ∧
  RE c91_23 3 ∧
  Seq C c91_9 c91_10 c91_23 ∧
  Seq C c91_5 c91_6 c91_9 ∧
  Lp C c91_4 c91_5 ∧
  Blk C c91_3 0 c91_4 ∧
  Seq C c91_1 c91_2 c91_3 :=
  ⟨reg_mk rfl, row1 rfl, row1 rfl, row1 rfl, rowE rfl, reg_mk rfl, row1 rfl, row1 rfl, row1 rfl, rowE rfl, cond_mk rfl, seq_mk rfl, reg_mk rfl, row1 rfl, row1 rfl, rowE rfl, draw_mk rfl, dow1 rfl, dow1 rfl, dow1 rfl, dow1 rfl, dowG rfl rfl, dowG rfl rfl, dowG rfl rfl, dowG rfl rfl, dowG rfl rfl, dowG rfl rfl, dowG rfl rfl, dowG rfl rfl, dowG rfl rfl, dowG rfl rfl, dow1 rfl, dowE rfl, cond_mk rfl, seq_mk rfl, draw_mk rfl, dow1 rfl, dow1 rfl, dow1 rfl, dow1 rfl, dow1 rfl, dow1 rfl, dow1 rfl, dow1 rfl, dow1 rfl, dow1 rfl, dow1 rfl, dow1 rfl, dow1 rfl, dow1 rfl, dow1 rfl, dow0 rfl, dow1 rfl, dow0 rfl, dowE rfl, blk_mk rfl, reg_mk rfl, row1 rfl, row1 rfl, row1 rfl, rowE rfl, seq_mk rfl, seq_mk rfl, lp_mk rfl, blk_mk rfl, seq_mk rfl, blk_mk rfl, reg_mk rfl, row1 rfl, row1 rfl, row1 rfl, rowE rfl, seq_mk rfl, seq_mk rfl, lp_mk rfl, blk_mk rfl, seq_mk rfl⟩
theorem body91 : Try.f91.body = some c91_1 := rfl
/-! cmp.Less[int] -/
noncomputable def c97_1 : Code := (Try.f97.body).getD .skip
noncomputable def c97_2 : Code := kid c97_1 0
noncomputable def c97_3 : Code := kid c97_1 1
noncomputable def c97_4 : Code := kid c97_3 0
@[go_sem] theorem w97 : Reg C c97_2 ∧
  R1 c97_2 0 1 4 (.assign (.const (.bool false))) ∧
  RE c97_2 1 ∧
  Reg C c97_4 ∧
  R1 c97_4 0 1 5 (.move t0) ∧
  R1 c97_4 1 2 6 (.call ⟨.value (.func 107), #[t5], #[3]⟩) ∧
  R1 c97_4 2 3 7 (.move t6) ∧
  RG c97_4 3 4 (some 8) (.move t1) 7 true ∧
  RG c97_4 4 5 (some 9) (.call ⟨.value (.func 107), #[t8], #[3]⟩) 7 true ∧
  RG c97_4 5 6 (some 10) (.unOp .not 4 t9) 7 true ∧
  R1 c97_4 6 7 11 (.pick t7 t10 (.const (.bool false))) ∧
  R1 c97_4 7 8 12 (.move t11) ∧
  RG c97_4 8 9 (some 13) (.move t0) 12 false ∧
  RG c97_4 9 10 (some 14) (.move t1) 12 false ∧
  RG c97_4 10 11 (some 15) (.binOp .lss 3 t13 t14 3) 12 false ∧
  R1 c97_4 11 12 16 (.pick t12 (.const (.bool true)) t15) ∧
  R1 c97_4 12 13 4 (.assign t16) ∧
  RE c97_4 13 ∧
  Seq C c97_3 c97_4 .ret ∧
  Seq C c97_1 c97_2 c97_3 :=
  ⟨reg_mk rfl, row1 rfl, rowE rfl, reg_mk rfl, row1 rfl, row1 rfl, row1 rfl, rowG rfl rfl, rowG rfl rfl, rowG rfl rfl, row1 rfl, row1 rfl, rowG rfl rfl, rowG rfl rfl, rowG rfl rfl, row1 rfl, row1 rfl, rowE rfl, seq_mk rfl, seq_mk rfl⟩
theorem body97 : Try.f97.body = some c97_1 := rfl
/-! cmp.isNaN[int] -/
noncomputable def c107_1 : Code := (Try.f107.body).getD .skip
noncomputable def c107_2 : Code := kid c107_1 0
noncomputable def c107_3 : Code := kid c107_1 1
noncomputable def c107_4 : Code := kid c107_3 0
@[go_sem] theorem w107 : Reg C c107_2 ∧
  R1 c107_2 0 1 2 (.assign (.const (.bool false))) ∧
  RE c107_2 1 ∧
  Reg C c107_4 ∧
  R1 c107_4 0 1 3 (.move t0) ∧
  R1 c107_4 1 2 4 (.move t0) ∧
  R1 c107_4 2 3 5 (.binOp .neq 3 t3 t4 3) ∧
  R1 c107_4 3 4 2 (.assign t5) ∧
  RE c107_4 4 ∧
  Seq C c107_3 c107_4 .ret ∧
  Seq C c107_1 c107_2 c107_3 :=
  ⟨reg_mk rfl, row1 rfl, rowE rfl, reg_mk rfl, row1 rfl, row1 rfl, row1 rfl, row1 rfl, rowE rfl, seq_mk rfl, seq_mk rfl⟩
theorem body107 : Try.f107.body = some c107_1 := rfl
/-! math/bits.Len -/
noncomputable def c90_1 : Code := (Try.f90.body).getD .skip
noncomputable def c90_2 : Code := kid c90_1 0
noncomputable def c90_3 : Code := kid c90_1 1
noncomputable def c90_4 : Code := kid c90_3 0
noncomputable def c90_5 : Code := kid c90_4 0
noncomputable def c90_6 : Code := kid c90_5 0
noncomputable def c90_7 : Code := kid c90_3 1
noncomputable def c90_8 : Code := kid c90_7 0
@[go_sem] theorem w90 : Reg C c90_2 ∧
  R1 c90_2 0 1 2 (.assign (.const (.int .i64 0))) ∧
  RE c90_2 1 ∧
  Reg C c90_6 ∧
  R1 c90_6 0 1 3 (.move t0) ∧
  R1 c90_6 1 2 4 (.convert 103 112 t3) ∧
  R1 c90_6 2 3 5 (.call ⟨.value (.func 100), #[t4], #[112]⟩) ∧
  R1 c90_6 3 4 2 (.assign t5) ∧
  RE c90_6 4 ∧
  Seq C c90_5 c90_6 .ret ∧
  Cond C c90_4 (.const (.bool false)) c90_5 .skip ∧
  Reg C c90_8 ∧
  R1 c90_8 0 1 6 (.move t0) ∧
  R1 c90_8 1 2 7 (.call ⟨.value (.func 101), #[t6], #[114]⟩) ∧
  R1 c90_8 2 3 2 (.assign t7) ∧
  RE c90_8 3 ∧
  Seq C c90_7 c90_8 .ret ∧
  Seq C c90_3 c90_4 c90_7 ∧
  Seq C c90_1 c90_2 c90_3 :=
  ⟨reg_mk rfl, row1 rfl, rowE rfl, reg_mk rfl, row1 rfl, row1 rfl, row1 rfl, row1 rfl, rowE rfl, seq_mk rfl, cond_mk rfl, reg_mk rfl, row1 rfl, row1 rfl, row1 rfl, rowE rfl, seq_mk rfl, seq_mk rfl, seq_mk rfl⟩
theorem body90 : Try.f90.body = some c90_1 := rfl
/-! math/bits.Len64 -/
noncomputable def c101_1 : Code := (Try.f101.body).getD .skip
noncomputable def c101_2 : Code := kid c101_1 0
noncomputable def c101_3 : Code := kid c101_1 1
noncomputable def c101_4 : Code := kid c101_3 0
noncomputable def c101_5 : Code := kid c101_4 0
noncomputable def c101_6 : Code := kid c101_4 1
noncomputable def c101_7 : Code := kid c101_6 0
noncomputable def c101_8 : Code := kid c101_7 0
noncomputable def c101_9 : Code := kid c101_7 1
noncomputable def c101_10 : Code := kid c101_3 1
noncomputable def c101_11 : Code := kid c101_10 0
noncomputable def c101_12 : Code := kid c101_11 0
noncomputable def c101_13 : Code := kid c101_11 1
noncomputable def c101_14 : Code := kid c101_13 0
noncomputable def c101_15 : Code := kid c101_14 0
noncomputable def c101_16 : Code := kid c101_14 1
noncomputable def c101_17 : Code := kid c101_10 1
noncomputable def c101_18 : Code := kid c101_17 0
noncomputable def c101_19 : Code := kid c101_18 0
noncomputable def c101_20 : Code := kid c101_18 1
noncomputable def c101_21 : Code := kid c101_20 0
noncomputable def c101_22 : Code := kid c101_21 0
noncomputable def c101_23 : Code := kid c101_21 1
noncomputable def c101_24 : Code := kid c101_17 1
noncomputable def c101_25 : Code := kid c101_24 0
@[go_sem] theorem w101 : Reg C c101_2 ∧
  R1 c101_2 0 1 2 (.assign (.const (.int .i64 0))) ∧
  RE c101_2 1 ∧
  Reg C c101_5 ∧
  R1 c101_5 0 1 3 (.move t0) ∧
  R1 c101_5 1 2 4 (.binOp .geq 114 t3 (.const (.int .u64 4294967296)) 114) ∧
  RE c101_5 2 ∧
  Reg C c101_8 ∧
  R1 c101_8 0 1 5 (.move t0) ∧
  R1 c101_8 1 2 6 (.binOp .shr 114 t5 (.const (.int .u64 32)) 103) ∧
  R1 c101_8 2 3 0 (.assign t6) ∧
  RE c101_8 3 ∧
  Reg C c101_9 ∧
  R1 c101_9 0 1 2 (.assign (.const (.int .i64 32))) ∧
  RE c101_9 1 ∧
  Seq C c101_7 c101_8 c101_9 ∧
  Cond C c101_6 t4 c101_7 .skip ∧
  Seq C c101_4 c101_5 c101_6 ∧
  Reg C c101_12 ∧
  R1 c101_12 0 1 7 (.move t0) ∧
  R1 c101_12 1 2 8 (.binOp .geq 114 t7 (.const (.int .u64 65536)) 114) ∧
  RE c101_12 2 ∧
  Reg C c101_15 ∧
  R1 c101_15 0 1 9 (.move t0) ∧
  R1 c101_15 1 2 10 (.binOp .shr 114 t9 (.const (.int .u64 16)) 103) ∧
  R1 c101_15 2 3 0 (.assign t10) ∧
  RE c101_15 3 ∧
  Reg C c101_16 ∧
  R1 c101_16 0 1 11 (.move t2) ∧
  R1 c101_16 1 2 12 (.binOp .add 3 t11 (.const (.int .i64 16)) 3) ∧
  R1 c101_16 2 3 2 (.assign t12) ∧
  RE c101_16 3 ∧
  Seq C c101_14 c101_15 c101_16 ∧
  Cond C c101_13 t8 c101_14 .skip ∧
  Seq C c101_11 c101_12 c101_13 ∧
  Reg C c101_19 ∧
  R1 c101_19 0 1 13 (.move t0) ∧
  R1 c101_19 1 2 14 (.binOp .geq 114 t13 (.const (.int .u64 256)) 114) ∧
  RE c101_19 2 ∧
  Reg C c101_22 ∧
  R1 c101_22 0 1 15 (.move t0) ∧
  R1 c101_22 1 2 16 (.binOp .shr 114 t15 (.const (.int .u64 8)) 103) ∧
  R1 c101_22 2 3 0 (.assign t16) ∧
  RE c101_22 3 ∧
  Reg C c101_23 ∧
  R1 c101_23 0 1 17 (.move t2) ∧
  R1 c101_23 1 2 18 (.binOp .add 3 t17 (.const (.int .i64 8)) 3) ∧
  R1 c101_23 2 3 2 (.assign t18) ∧
  RE c101_23 3 ∧
  Seq C c101_21 c101_22 c101_23 ∧
  Cond C c101_20 t14 c101_21 .skip ∧
  Seq C c101_18 c101_19 c101_20 ∧
  Reg C c101_25 ∧
  R1 c101_25 0 1 19 (.move t2) ∧
  R1 c101_25 1 2 20 (.move t0) ∧
  R1 c101_25 2 3 21 (.convert 114 5 t20) ∧
  R1 c101_25 3 4 22 (.index 9 (.const (.string { data := (([0, 1, 2, 2, 3, 3, 3, 3, 4, 4, 4, 4, 4, 4, 4, 4, 5, 5, 5, 5, 5, 5, 5, 5, 5, 5, 5, 5, 5, 5, 5, 5, 6, 6, 6, 6, 6, 6, 6, 6, 6, 6, 6, 6, 6, 6, 6, 6, 6, 6, 6, 6, 6, 6, 6, 6, 6, 6, 6, 6, 6, 6, 6, 6].append [7, 7, 7, 7, 7, 7, 7, 7, 7, 7, 7, 7, 7, 7, 7, 7, 7, 7, 7, 7, 7, 7, 7, 7, 7, 7, 7, 7, 7, 7, 7, 7, 7, 7, 7, 7, 7, 7, 7, 7, 7, 7, 7, 7, 7, 7, 7, 7, 7, 7, 7, 7, 7, 7, 7, 7, 7, 7, 7, 7, 7, 7, 7, 7]).append ([8, 8, 8, 8, 8, 8, 8, 8, 8, 8, 8, 8, 8, 8, 8, 8, 8, 8, 8, 8, 8, 8, 8, 8, 8, 8, 8, 8, 8, 8, 8, 8, 8, 8, 8, 8, 8, 8, 8, 8, 8, 8, 8, 8, 8, 8, 8, 8, 8, 8, 8, 8, 8, 8, 8, 8, 8, 8, 8, 8, 8, 8, 8, 8].append [8, 8, 8, 8, 8, 8, 8, 8, 8, 8, 8, 8, 8, 8, 8, 8, 8, 8, 8, 8, 8, 8, 8, 8, 8, 8, 8, 8, 8, 8, 8, 8, 8, 8, 8, 8, 8, 8, 8, 8, 8, 8, 8, 8, 8, 8, 8, 8, 8, 8, 8, 8, 8, 8, 8, 8, 8, 8, 8, 8, 8, 8, 8, 8])).toArray })) t21) ∧
  R1 c101_25 4 5 23 (.convert 5 3 t22) ∧
  R1 c101_25 5 6 24 (.binOp .add 3 t19 t23 3) ∧
  R1 c101_25 6 7 2 (.assign t24) ∧
  RE c101_25 7 ∧
  Seq C c101_24 c101_25 .ret ∧
  Seq C c101_17 c101_18 c101_24 ∧
  Seq C c101_10 c101_11 c101_17 ∧
  Seq C c101_3 c101_4 c101_10 ∧
  Seq C c101_1 c101_2 c101_3 :=
  ⟨reg_mk rfl, row1 rfl, rowE rfl, reg_mk rfl, row1 rfl, row1 rfl, rowE rfl, reg_mk rfl, row1 rfl, row1 rfl, row1 rfl, rowE rfl, reg_mk rfl, row1 rfl, rowE rfl, seq_mk rfl, cond_mk rfl, seq_mk rfl, reg_mk rfl, row1 rfl, row1 rfl, rowE rfl, reg_mk rfl, row1 rfl, row1 rfl, row1 rfl, rowE rfl, reg_mk rfl, row1 rfl, row1 rfl, row1 rfl, rowE rfl, seq_mk rfl, cond_mk rfl, seq_mk rfl, reg_mk rfl, row1 rfl, row1 rfl, rowE rfl, reg_mk rfl, row1 rfl, row1 rfl, row1 rfl, rowE rfl, reg_mk rfl, row1 rfl, row1 rfl, row1 rfl, rowE rfl, seq_mk rfl, cond_mk rfl, seq_mk rfl, reg_mk rfl, row1 rfl, row1 rfl, row1 rfl, row1 rfl, row1 rfl, row1 rfl, row1 rfl, rowE rfl, seq_mk rfl, seq_mk rfl, seq_mk rfl, seq_mk rfl, seq_mk rfl⟩
theorem body101 : Try.f101.body = some c101_1 := rfl
end Go.Proofs.Ytlomgfdepllanaa
end
