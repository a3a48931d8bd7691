/-
  Parts CodeF, CodeG, one behind the other: a program logic of our own, contracts of functions.
-/
import Derived.Test.YtlomgfdepllanaaM4
section
set_option maxRecDepth 100000
namespace Go.Proofs.Ytlomgfdepllanaa
open Go Go.Bv
/-! fluxion/infer.limited -/
noncomputable def c60_1 : Code := (Try.f60.body).getD .skip
noncomputable def c60_2 : Code := kid c60_1 0
noncomputable def c60_3 : Code := kid c60_1 1
noncomputable def c60_4 : Code := kid c60_3 0
noncomputable def c60_5 : Code := kid c60_4 0
noncomputable def c60_6 : Code := kid c60_4 1
noncomputable def c60_7 : Code := kid c60_6 0
noncomputable def c60_8 : Code := kid c60_6 1
noncomputable def c60_9 : Code := kid c60_8 0
noncomputable def c60_10 : Code := kid c60_9 0
noncomputable def c60_11 : Code := kid c60_3 1
noncomputable def c60_12 : Code := kid c60_11 0
@[go_sem] theorem w60 : Reg C c60_2 ∧
  R1 c60_2 0 1 2 (.assign (.const (.slice none 0 0))) ∧
  R1 c60_2 1 2 3 (.assign (.const (.int .i64 0))) ∧
  RE c60_2 2 ∧
  Reg C c60_5 ∧
  R1 c60_5 0 1 5 (.move t0) ∧
  R1 c60_5 1 2 6 (.call ⟨.value (.func 23), #[t5], #[28]⟩) ∧
  R1 c60_5 2 3 4 (.assign t6) ∧
  RE c60_5 3 ∧
  Reg C c60_7 ∧
  R1 c60_7 0 1 7 (.move t4) ∧
  R1 c60_7 1 2 8 (.binOp .neq 29 t7 (.const (.int .i64 0)) 29) ∧
  RE c60_7 2 ∧
  Reg C c60_10 ∧
  R1 c60_10 0 1 9 (.move t4) ∧
  R1 c60_10 1 2 2 (.assign (.const (.slice none 0 0))) ∧
  R1 c60_10 2 3 3 (.assign t9) ∧
  RE c60_10 3 ∧
  Seq C c60_9 c60_10 .ret ∧
  Cond C c60_8 t8 c60_9 .skip ∧
  Seq C c60_6 c60_7 c60_8 ∧
  Seq C c60_4 c60_5 c60_6 ∧
  Reg C c60_12 ∧
  R1 c60_12 0 1 10 (.move t0) ∧
  R1 c60_12 1 2 2 (.assign t10) ∧
  R1 c60_12 2 3 3 (.assign (.const (.int .i64 0))) ∧
  RE c60_12 3 ∧
  Seq C c60_11 c60_12 .ret ∧
  Seq C c60_3 c60_4 c60_11 ∧
  Seq C c60_1 c60_2 c60_3 :=
  ⟨reg_mk rfl, row1 rfl, row1 rfl, rowE rfl, reg_mk rfl, row1 rfl, row1 rfl, row1 rfl, rowE rfl, reg_mk rfl, row1 rfl, row1 rfl, rowE rfl, reg_mk rfl, row1 rfl, row1 rfl, row1 rfl, rowE rfl, seq_mk rfl, cond_mk rfl, seq_mk rfl, seq_mk rfl, reg_mk rfl, row1 rfl, row1 rfl, row1 rfl, rowE rfl, seq_mk rfl, seq_mk rfl, seq_mk rfl⟩
theorem body60 : Try.f60.body = some c60_1 := rfl
/-! fluxion/infer.matrix -/
noncomputable def c39_1 : Code := (Try.f39.body).getD .skip
noncomputable def c39_2 : Code := kid c39_1 0
noncomputable def c39_3 : Code := kid c39_1 1
noncomputable def c39_4 : Code := kid c39_3 0
noncomputable def c39_5 : Code := kid c39_4 0
noncomputable def c39_6 : Code := kid c39_4 1
noncomputable def c39_7 : Code := kid c39_6 0
noncomputable def c39_8 : Code := kid c39_7 0
noncomputable def c39_9 : Code := kid c39_3 1
noncomputable def c39_10 : Code := kid c39_9 0
@[go_sem] theorem w39 : Reg C c39_2 ∧
  R1 c39_2 0 1 4 (.assign (.const (.slice none 0 0))) ∧
  R1 c39_2 1 2 5 (.assign (.const (.int .i64 0))) ∧
  RE c39_2 2 ∧
  Draw C c39_5 ∧
  D1 c39_5 0 1 6 (.move t0) ∧
  D1 c39_5 1 2 7 (.call ⟨.builtin .len, #[t6], #[28]⟩) ∧
  D1 c39_5 2 3 8 (.binOp .neq 3 t7 (.const (.int .i64 2)) 3) ∧
  D1 c39_5 3 4 9 (.move t8) ∧
  DG c39_5 4 5 (some 10) (.move t1) 9 false ∧
  DG c39_5 5 6 (some 11) (.call ⟨.builtin .len, #[t10], #[28]⟩) 9 false ∧
  DG c39_5 6 7 (some 12) (.binOp .neq 3 t11 (.const (.int .i64 2)) 3) 9 false ∧
  D1 c39_5 7 8 13 (.pick t9 (.const (.bool true)) t12) ∧
  D1 c39_5 8 9 14 (.move t13) ∧
  DG c39_5 9 10 (some 15) (.move t0) 14 false ∧
  DG c39_5 10 11 (some 16) (.indexAddr 28 t15 (.const (.int .i64 1))) 14 false ∧
  DG c39_5 11 12 (some 17) (.load 3 t16) 14 false ∧
  DG c39_5 12 13 (some 18) (.move t1) 14 false ∧
  DG c39_5 13 14 (some 19) (.indexAddr 28 t18 (.const (.int .i64 0))) 14 false ∧
  DG c39_5 14 15 (some 20) (.load 3 t19) 14 false ∧
  DG c39_5 15 16 (some 21) (.binOp .neq 3 t17 t20 3) 14 false ∧
  D1 c39_5 16 17 22 (.pick t14 (.const (.bool true)) t21) ∧
  DE c39_5 17 ∧
  Reg C c39_8 ∧
  R1 c39_8 0 1 4 (.assign (.const (.slice none 0 0))) ∧
  R1 c39_8 1 2 5 (.assign (.const (.int .i64 13))) ∧
  RE c39_8 2 ∧
  Seq C c39_7 c39_8 .ret ∧
  Cond C c39_6 t22 c39_7 .skip ∧
  Seq C c39_4 c39_5 c39_6 ∧
  Draw C c39_10 ∧
  D1 c39_10 0 1 23 (.move t0) ∧
  D1 c39_10 1 2 24 (.indexAddr 28 t23 (.const (.int .i64 0))) ∧
  D1 c39_10 2 3 25 (.load 3 t24) ∧
  D1 c39_10 3 4 26 (.move t1) ∧
  D1 c39_10 4 5 27 (.indexAddr 28 t26 (.const (.int .i64 1))) ∧
  D1 c39_10 5 6 28 (.load 3 t27) ∧
  D1 c39_10 6 7 29 (.buildSlice 28 2 #[(0, t25), (1, t28)]) ∧
  D1 c39_10 7 8 30 (.call ⟨.value (.func 60), #[t29], #[28]⟩) ∧
  D1 c39_10 8 9 31 (.extract t30 0) ∧
  D1 c39_10 9 10 32 (.extract t30 1) ∧
  D1 c39_10 10 11 4 (.assign t31) ∧
  D1 c39_10 11 12 5 (.assign t32) ∧
  DE c39_10 12 ∧
  Seq C c39_9 c39_10 .ret ∧
  Seq C c39_3 c39_4 c39_9 ∧
  Seq C c39_1 c39_2 c39_3 :=
  ⟨reg_mk rfl, row1 rfl, row1 rfl, rowE rfl, draw_mk rfl, dow1 rfl, dow1 rfl, dow1 rfl, dow1 rfl, dowG rfl rfl, dowG rfl rfl, dowG rfl rfl, dow1 rfl, dow1 rfl, dowG rfl rfl, dowG rfl rfl, dowG rfl rfl, dowG rfl rfl, dowG rfl rfl, dowG rfl rfl, dowG rfl rfl, dow1 rfl, dowE rfl, reg_mk rfl, row1 rfl, row1 rfl, rowE rfl, seq_mk rfl, cond_mk rfl, seq_mk rfl, draw_mk rfl, dow1 rfl, dow1 rfl, dow1 rfl, dow1 rfl, dow1 rfl, dow1 rfl, dow1 rfl, dow1 rfl, dow1 rfl, dow1 rfl, dow1 rfl, dow1 rfl, dowE rfl, seq_mk rfl, seq_mk rfl, seq_mk rfl⟩
theorem body39 : Try.f39.body = some c39_1 := rfl
/-! fluxion/infer.turned -/
noncomputable def c41_1 : Code := (Try.f41.body).getD .skip
noncomputable def c41_2 : Code := kid c41_1 0
noncomputable def c41_3 : Code := kid c41_1 1
noncomputable def c41_4 : Code := kid c41_3 0
noncomputable def c41_5 : Code := kid c41_4 0
noncomputable def c41_6 : Code := kid c41_4 1
noncomputable def c41_7 : Code := kid c41_6 0
noncomputable def c41_8 : Code := kid c41_7 0
noncomputable def c41_9 : Code := kid c41_3 1
noncomputable def c41_10 : Code := kid c41_9 0
noncomputable def c41_11 : Code := kid c41_10 0
noncomputable def c41_12 : Code := kid c41_10 1
noncomputable def c41_13 : Code := kid c41_12 0
noncomputable def c41_14 : Code := kid c41_13 0
noncomputable def c41_15 : Code := kid c41_14 0
noncomputable def c41_16 : Code := kid c41_14 1
noncomputable def c41_17 : Code := kid c41_16 0
noncomputable def c41_18 : Code := kid c41_16 1
noncomputable def c41_19 : Code := kid c41_18 0
noncomputable def c41_20 : Code := kid c41_19 0
noncomputable def c41_21 : Code := kid c41_20 0
noncomputable def c41_22 : Code := kid c41_20 1
noncomputable def c41_23 : Code := kid c41_18 1
noncomputable def c41_24 : Code := kid c41_9 1
noncomputable def c41_25 : Code := kid c41_24 0
@[go_sem] theorem w41 : Reg C c41_2 ∧
  R1 c41_2 0 1 4 (.assign (.const (.slice none 0 0))) ∧
  R1 c41_2 1 2 5 (.assign (.const (.int .i64 0))) ∧
  RE c41_2 2 ∧
  Reg C c41_5 ∧
  R1 c41_5 0 1 8 (.move t1) ∧
  R1 c41_5 1 2 9 (.call ⟨.builtin .len, #[t8], #[23]⟩) ∧
  R1 c41_5 2 3 10 (.move t0) ∧
  R1 c41_5 3 4 11 (.call ⟨.builtin .len, #[t10], #[28]⟩) ∧
  R1 c41_5 4 5 12 (.binOp .neq 3 t9 t11 3) ∧
  RE c41_5 5 ∧
  Reg C c41_8 ∧
  R1 c41_8 0 1 4 (.assign (.const (.slice none 0 0))) ∧
  R1 c41_8 1 2 5 (.assign (.const (.int .i64 13))) ∧
  RE c41_8 2 ∧
  Seq C c41_7 c41_8 .ret ∧
  Cond C c41_6 t12 c41_7 .skip ∧
  Seq C c41_4 c41_5 c41_6 ∧
  Reg C c41_11 ∧
  R1 c41_11 0 1 13 (.move t1) ∧
  R1 c41_11 1 2 14 (.call ⟨.builtin .len, #[t13], #[23]⟩) ∧
  R1 c41_11 2 3 15 (.move (.const (.int .i64 0))) ∧
  RE c41_11 3 ∧
  Reg C c41_15 ∧
  R1 c41_15 0 1 16 (.binOp .lss 3 t15 t14 3) ∧
  RE c41_15 1 ∧
  Cond C c41_17 t16 .skip (.exit 0) ∧
  Reg C c41_21 ∧
  R1 c41_21 0 1 17 (.indexAddr 23 t13 t15) ∧
  R1 c41_21 1 2 18 (.load 3 t17) ∧
  R1 c41_21 2 3 7 (.assign t18) ∧
  RE c41_21 3 ∧
  Reg C c41_22 ∧
  R1 c41_22 0 1 19 (.move t4) ∧
  R1 c41_22 1 2 20 (.move t0) ∧
  R1 c41_22 2 3 21 (.move t7) ∧
  R1 c41_22 3 4 22 (.indexAddr 28 t20 t21) ∧
  R1 c41_22 4 5 23 (.load 3 t22) ∧
  R1 c41_22 5 6 24 (.buildSlice 28 1 #[(0, t23)]) ∧
  R1 c41_22 6 7 25 (.call ⟨.builtin .append, #[t19, t24], #[28, 28]⟩) ∧
  R1 c41_22 7 8 4 (.assign t25) ∧
  RE c41_22 8 ∧
  Seq C c41_20 c41_21 c41_22 ∧
  Blk C c41_19 1 c41_20 ∧
  Reg C c41_23 ∧
  R1 c41_23 0 1 26 (.binOp .add 3 t15 (.const (.int .i64 1)) 3) ∧
  R1 c41_23 1 2 15 (.move t26) ∧
  RE c41_23 2 ∧
  Seq C c41_18 c41_19 c41_23 ∧
  Seq C c41_16 c41_17 c41_18 ∧
  Seq C c41_14 c41_15 c41_16 ∧
  Lp C c41_13 c41_14 ∧
  Blk C c41_12 0 c41_13 ∧
  Seq C c41_10 c41_11 c41_12 ∧
  Reg C c41_25 ∧
  R1 c41_25 0 1 27 (.move t4) ∧
  R1 c41_25 1 2 4 (.assign t27) ∧
  R1 c41_25 2 3 5 (.assign (.const (.int .i64 0))) ∧
  RE c41_25 3 ∧
  Seq C c41_24 c41_25 .ret ∧
  Seq C c41_9 c41_10 c41_24 ∧
  Seq C c41_3 c41_4 c41_9 ∧
  Seq C c41_1 c41_2 c41_3 :=
  ⟨reg_mk rfl, row1 rfl, row1 rfl, rowE rfl, reg_mk rfl, row1 rfl, row1 rfl, row1 rfl, row1 rfl, row1 rfl, rowE rfl, reg_mk rfl, row1 rfl, row1 rfl, rowE rfl, seq_mk rfl, cond_mk rfl, seq_mk rfl, reg_mk rfl, row1 rfl, row1 rfl, row1 rfl, rowE rfl, reg_mk rfl, row1 rfl, rowE rfl, cond_mk rfl, reg_mk rfl, row1 rfl, row1 rfl, row1 rfl, rowE rfl, reg_mk rfl, row1 rfl, row1 rfl, row1 rfl, row1 rfl, row1 rfl, row1 rfl, row1 rfl, row1 rfl, rowE rfl, seq_mk rfl, blk_mk rfl, reg_mk rfl, row1 rfl, row1 rfl, rowE rfl, seq_mk rfl, seq_mk rfl, seq_mk rfl, lp_mk rfl, blk_mk rfl, seq_mk rfl, reg_mk rfl, row1 rfl, row1 rfl, row1 rfl, rowE rfl, seq_mk rfl, seq_mk rfl, seq_mk rfl, seq_mk rfl⟩
theorem body41 : Try.f41.body = some c41_1 := rfl
/-! fluxion/infer.pairs -/
noncomputable def c63_1 : Code := (Try.f63.body).getD .skip
noncomputable def c63_2 : Code := kid c63_1 0
noncomputable def c63_3 : Code := kid c63_1 1
noncomputable def c63_4 : Code := kid c63_3 0
@[go_sem] theorem w63 : Reg C c63_2 ∧
  R1 c63_2 0 1 1 (.box 23 t0) ∧
  R1 c63_2 1 2 2 (.assign (.const .nilFunc)) ∧
  RE c63_2 2 ∧
  Reg C c63_4 ∧
  R1 c63_4 0 1 3 (.makeFunc (.func 69) #[] #[t1]) ∧
  R1 c63_4 1 2 2 (.assign t3) ∧
  RE c63_4 2 ∧
  Seq C c63_3 c63_4 .ret ∧
  Seq C c63_1 c63_2 c63_3 :=
  ⟨reg_mk rfl, row1 rfl, row1 rfl, rowE rfl, reg_mk rfl, row1 rfl, row1 rfl, rowE rfl, seq_mk rfl, seq_mk rfl⟩
theorem body63 : Try.f63.body = some c63_1 := rfl
/-! fluxion/infer.pairs$1 -/
noncomputable def c69_1 : Code := (Try.f69.body).getD .skip
noncomputable def c69_2 : Code := kid c69_1 0
noncomputable def c69_3 : Code := kid c69_1 1
noncomputable def c69_4 : Code := kid c69_3 0
noncomputable def c69_5 : Code := kid c69_4 0
noncomputable def c69_6 : Code := kid c69_5 0
noncomputable def c69_7 : Code := kid c69_6 0
noncomputable def c69_8 : Code := kid c69_6 1
noncomputable def c69_9 : Code := kid c69_5 1
noncomputable def c69_10 : Code := kid c69_9 0
noncomputable def c69_11 : Code := kid c69_10 0
noncomputable def c69_12 : Code := kid c69_11 0
noncomputable def c69_13 : Code := kid c69_11 1
noncomputable def c69_14 : Code := kid c69_9 1
@[go_sem] theorem w69 : Reg C c69_2 ∧
  R1 c69_2 0 1 3 (.assign (.const (.int .i64 0))) ∧
  RE c69_2 1 ∧
  Reg C c69_7 ∧
  R1 c69_7 0 1 4 (.move t3) ∧
  R1 c69_7 1 2 5 (.binOp .add 3 t4 (.const (.int .i64 1)) 3) ∧
  R1 c69_7 2 3 6 (.load 23 t1) ∧
  R1 c69_7 3 4 7 (.call ⟨.builtin .len, #[t6], #[23]⟩) ∧
  R1 c69_7 4 5 8 (.binOp .lss 3 t5 t7 3) ∧
  RE c69_7 5 ∧
  Cond C c69_8 t8 .skip (.exit 0) ∧
  Seq C c69_6 c69_7 c69_8 ∧
  Draw C c69_12 ∧
  D1 c69_12 0 1 11 (.move t0) ∧
  D1 c69_12 1 2 12 (.load 23 t1) ∧
  D1 c69_12 2 3 13 (.move t3) ∧
  D1 c69_12 3 4 14 (.indexAddr 23 t12 t13) ∧
  D1 c69_12 4 5 15 (.load 3 t14) ∧
  D1 c69_12 5 6 16 (.load 23 t1) ∧
  D1 c69_12 6 7 17 (.move t3) ∧
  D1 c69_12 7 8 18 (.binOp .add 3 t17 (.const (.int .i64 1)) 3) ∧
  D1 c69_12 8 9 19 (.indexAddr 23 t16 t18) ∧
  D1 c69_12 9 10 20 (.load 3 t19) ∧
  D1 c69_12 10 11 21 (.call ⟨.value t11, #[t15, t20], #[3, 3]⟩) ∧
  D1 c69_12 11 12 22 (.unOp .not 4 t21) ∧
  DE c69_12 12 ∧
  Cond C c69_13 t22 .ret .skip ∧
  Seq C c69_11 c69_12 c69_13 ∧
  Blk C c69_10 1 c69_11 ∧
  Reg C c69_14 ∧
  R1 c69_14 0 1 9 (.move t3) ∧
  R1 c69_14 1 2 10 (.binOp .add 3 t9 (.const (.int .i64 2)) 3) ∧
  R1 c69_14 2 3 3 (.assign t10) ∧
  RE c69_14 3 ∧
  Seq C c69_9 c69_10 c69_14 ∧
  Seq C c69_5 c69_6 c69_9 ∧
  Lp C c69_4 c69_5 ∧
  Blk C c69_3 0 c69_4 ∧
  Seq C c69_1 c69_2 c69_3 :=
  ⟨reg_mk rfl, row1 rfl, rowE rfl, reg_mk rfl, row1 rfl, row1 rfl, row1 rfl, row1 rfl, row1 rfl, rowE rfl, cond_mk rfl, seq_mk rfl, draw_mk rfl, dow1 rfl, dow1 rfl, dow1 rfl, dow1 rfl, dow1 rfl, dow1 rfl, dow1 rfl, dow1 rfl, dow1 rfl, dow1 rfl, dow1 rfl, dow1 rfl, dowE rfl, cond_mk rfl, seq_mk rfl, blk_mk rfl, reg_mk rfl, row1 rfl, row1 rfl, row1 rfl, rowE rfl, seq_mk rfl, seq_mk rfl, lp_mk rfl, blk_mk rfl, seq_mk rfl⟩
theorem body69 : Try.f69.body = some c69_1 := rfl
/-! fluxion/infer.spanned -/
noncomputable def c44_1 : Code := (Try.f44.body).getD .skip
noncomputable def c44_2 : Code := kid c44_1 0
noncomputable def c44_3 : Code := kid c44_1 1
noncomputable def c44_4 : Code := kid c44_3 0
noncomputable def c44_5 : Code := kid c44_4 0
noncomputable def c44_6 : Code := kid c44_4 1
noncomputable def c44_7 : Code := kid c44_6 0
noncomputable def c44_8 : Code := kid c44_7 0
noncomputable def c44_9 : Code := kid c44_3 1
noncomputable def c44_10 : Code := kid c44_9 0
noncomputable def c44_11 : Code := kid c44_9 1
noncomputable def c44_12 : Code := kid c44_11 0
noncomputable def c44_13 : Code := kid c44_12 0
noncomputable def c44_14 : Code := kid c44_12 1
noncomputable def c44_15 : Code := kid c44_14 0
noncomputable def c44_16 : Code := kid c44_15 0
noncomputable def c44_17 : Code := kid c44_16 0
noncomputable def c44_18 : Code := kid c44_16 1
noncomputable def c44_19 : Code := kid c44_15 1
noncomputable def c44_20 : Code := kid c44_19 0
noncomputable def c44_21 : Code := kid c44_20 0
noncomputable def c44_22 : Code := kid c44_20 1
noncomputable def c44_23 : Code := kid c44_22 0
noncomputable def c44_24 : Code := kid c44_23 0
noncomputable def c44_25 : Code := kid c44_23 1
noncomputable def c44_26 : Code := kid c44_25 0
noncomputable def c44_27 : Code := kid c44_26 0
noncomputable def c44_28 : Code := kid c44_22 1
noncomputable def c44_29 : Code := kid c44_11 1
noncomputable def c44_30 : Code := kid c44_29 0
@[go_sem] theorem w44 : Reg C c44_2 ∧
  R1 c44_2 0 1 3 (.box 28 t0) ∧
  R1 c44_2 1 2 5 (.box 72 t2) ∧
  R1 c44_2 2 3 6 (.alloc 28) ∧
  R1 c44_2 3 4 7 (.alloc 29) ∧
  RE c44_2 4 ∧
  Reg C c44_5 ∧
  R1 c44_5 0 1 13 (.move t1) ∧
  R1 c44_5 1 2 14 (.call ⟨.builtin .len, #[t13], #[23]⟩) ∧
  R1 c44_5 2 3 15 (.load 28 t3) ∧
  R1 c44_5 3 4 16 (.call ⟨.builtin .len, #[t15], #[28]⟩) ∧
  R1 c44_5 4 5 17 (.binOp .mul 3 (.const (.int .i64 2)) t16 3) ∧
  R1 c44_5 5 6 18 (.binOp .neq 3 t14 t17 3) ∧
  RE c44_5 6 ∧
  Reg C c44_8 ∧
  R0 c44_8 0 1 (.store 28 t6 (.const (.slice none 0 0))) ∧
  R0 c44_8 1 2 (.store 29 t7 (.const (.int .i64 13))) ∧
  RE c44_8 2 ∧
  Seq C c44_7 c44_8 .ret ∧
  Cond C c44_6 t18 c44_7 .skip ∧
  Seq C c44_4 c44_5 c44_6 ∧
  Reg C c44_10 ∧
  R1 c44_10 0 1 19 (.buildSlice 28 0 #[]) ∧
  R1 c44_10 1 2 8 (.alloc 28) ∧
  R0 c44_10 2 3 (.store 28 t8 t19) ∧
  RE c44_10 3 ∧
  Reg C c44_13 ∧
  R1 c44_13 0 1 20 (.move t1) ∧
  R1 c44_13 1 2 21 (.call ⟨.value (.func 63), #[t20], #[23]⟩) ∧
  RE c44_13 2 ∧
  Reg C c44_17 ∧
  R1 c44_17 0 1 9 (.assign t22) ∧
  RE c44_17 1 ∧
  Reg C c44_18 ∧
  R1 c44_18 0 1 10 (.assign t23) ∧
  RE c44_18 1 ∧
  Seq C c44_16 c44_17 c44_18 ∧
  Draw C c44_21 ∧
  D1 c44_21 0 1 25 (.load 72 t5) ∧
  D1 c44_21 1 2 26 (.load 28 t3) ∧
  D1 c44_21 2 3 27 (.load 28 t8) ∧
  D1 c44_21 3 4 28 (.call ⟨.builtin .len, #[t27], #[28]⟩) ∧
  D1 c44_21 4 5 29 (.indexAddr 28 t26 t28) ∧
  D1 c44_21 5 6 30 (.load 3 t29) ∧
  D1 c44_21 6 7 31 (.move t9) ∧
  D1 c44_21 7 8 32 (.move t10) ∧
  D1 c44_21 8 9 33 (.call ⟨.value t25, #[t30, t31, t32], #[3, 3, 3]⟩) ∧
  D1 c44_21 9 10 24 (.move t33) ∧
  D1 c44_21 10 11 34 (.extract t24 0) ∧
  D1 c44_21 11 12 35 (.extract t24 1) ∧
  D1 c44_21 12 13 11 (.assign t34) ∧
  D1 c44_21 13 14 12 (.assign t35) ∧
  DE c44_21 14 ∧
  Reg C c44_24 ∧
  R1 c44_24 0 1 36 (.move t12) ∧
  R1 c44_24 1 2 37 (.unOp .not 4 t36) ∧
  RE c44_24 2 ∧
  Reg C c44_27 ∧
  R0 c44_27 0 1 (.store 28 t6 (.const (.slice none 0 0))) ∧
  R0 c44_27 1 2 (.store 29 t7 (.const (.int .i64 13))) ∧
  RE c44_27 2 ∧
  Seq C c44_26 c44_27 .ret ∧
  Cond C c44_25 t37 c44_26 .skip ∧
  Seq C c44_23 c44_24 c44_25 ∧
  Reg C c44_28 ∧
  R1 c44_28 0 1 38 (.load 28 t8) ∧
  R1 c44_28 1 2 39 (.move t11) ∧
  R1 c44_28 2 3 40 (.buildSlice 28 1 #[(0, t39)]) ∧
  R1 c44_28 3 4 41 (.call ⟨.builtin .append, #[t38, t40], #[28, 28]⟩) ∧
  R0 c44_28 4 5 (.store 28 t8 t41) ∧
  RE c44_28 5 ∧
  Seq C c44_22 c44_23 c44_28 ∧
  Seq C c44_20 c44_21 c44_22 ∧
  Blk C c44_19 1 c44_20 ∧
  Rng C c44_15 t21 #[22, 23] c44_16 c44_19 ∧
  Blk C c44_14 0 c44_15 ∧
  Seq C c44_12 c44_13 c44_14 ∧
  Reg C c44_30 ∧
  R1 c44_30 0 1 42 (.load 28 t8) ∧
  R1 c44_30 1 2 43 (.call ⟨.value (.func 60), #[t42], #[28]⟩) ∧
  R1 c44_30 2 3 44 (.extract t43 0) ∧
  R1 c44_30 3 4 45 (.extract t43 1) ∧
  R0 c44_30 4 5 (.store 28 t6 t44) ∧
  R0 c44_30 5 6 (.store 29 t7 t45) ∧
  RE c44_30 6 ∧
  Seq C c44_29 c44_30 .ret ∧
  Seq C c44_11 c44_12 c44_29 ∧
  Seq C c44_9 c44_10 c44_11 ∧
  Seq C c44_3 c44_4 c44_9 ∧
  Seq C c44_1 c44_2 c44_3 :=
  ⟨reg_mk rfl, row1 rfl, row1 rfl, row1 rfl, row1 rfl, rowE rfl, reg_mk rfl, row1 rfl, row1 rfl, row1 rfl, row1 rfl, row1 rfl, row1 rfl, rowE rfl, reg_mk rfl, row0 rfl, row0 rfl, rowE rfl, seq_mk rfl, cond_mk rfl, seq_mk rfl, reg_mk rfl, row1 rfl, row1 rfl, row0 rfl, rowE rfl, reg_mk rfl, row1 rfl, row1 rfl, rowE rfl, reg_mk rfl, row1 rfl, rowE rfl, reg_mk rfl, row1 rfl, rowE rfl, seq_mk rfl, draw_mk rfl, dow1 rfl, dow1 rfl, dow1 rfl, dow1 rfl, dow1 rfl, dow1 rfl, dow1 rfl, dow1 rfl, dow1 rfl, dow1 rfl, dow1 rfl, dow1 rfl, dow1 rfl, dow1 rfl, dowE rfl, reg_mk rfl, row1 rfl, row1 rfl, rowE rfl, reg_mk rfl, row0 rfl, row0 rfl, rowE rfl, seq_mk rfl, cond_mk rfl, seq_mk rfl, reg_mk rfl, row1 rfl, row1 rfl, row1 rfl, row1 rfl, row0 rfl, rowE rfl, seq_mk rfl, seq_mk rfl, blk_mk rfl, rng_mk rfl, blk_mk rfl, seq_mk rfl, reg_mk rfl, row1 rfl, row1 rfl, row1 rfl, row1 rfl, row0 rfl, row0 rfl, rowE rfl, seq_mk rfl, seq_mk rfl, seq_mk rfl, seq_mk rfl, seq_mk rfl⟩
theorem body44 : Try.f44.body = some c44_1 := rfl
/-! fluxion/infer.joined -/
noncomputable def c47_1 : Code := (Try.f47.body).getD .skip
noncomputable def c47_2 : Code := kid c47_1 0
noncomputable def c47_3 : Code := kid c47_1 1
noncomputable def c47_4 : Code := kid c47_3 0
noncomputable def c47_5 : Code := kid c47_3 1
noncomputable def c47_6 : Code := kid c47_5 0
noncomputable def c47_7 : Code := kid c47_6 0
noncomputable def c47_8 : Code := kid c47_6 1
noncomputable def c47_9 : Code := kid c47_8 0
noncomputable def c47_10 : Code := kid c47_9 0
noncomputable def c47_11 : Code := kid c47_5 1
noncomputable def c47_12 : Code := kid c47_11 0
noncomputable def c47_13 : Code := kid c47_11 1
noncomputable def c47_14 : Code := kid c47_13 0
noncomputable def c47_15 : Code := kid c47_14 0
noncomputable def c47_16 : Code := kid c47_14 1
noncomputable def c47_17 : Code := kid c47_16 0
noncomputable def c47_18 : Code := kid c47_17 0
noncomputable def c47_19 : Code := kid c47_18 0
noncomputable def c47_20 : Code := kid c47_18 1
noncomputable def c47_21 : Code := kid c47_20 0
noncomputable def c47_22 : Code := kid c47_20 1
noncomputable def c47_23 : Code := kid c47_22 0
noncomputable def c47_24 : Code := kid c47_23 0
noncomputable def c47_25 : Code := kid c47_24 0
noncomputable def c47_26 : Code := kid c47_24 1
noncomputable def c47_27 : Code := kid c47_26 0
noncomputable def c47_28 : Code := kid c47_27 0
noncomputable def c47_29 : Code := kid c47_27 1
noncomputable def c47_30 : Code := kid c47_29 0
noncomputable def c47_31 : Code := kid c47_30 0
noncomputable def c47_32 : Code := kid c47_26 1
noncomputable def c47_33 : Code := kid c47_22 1
noncomputable def c47_34 : Code := kid c47_13 1
noncomputable def c47_35 : Code := kid c47_34 0
@[go_sem] theorem w47 : Reg C c47_2 ∧
  R1 c47_2 0 1 4 (.assign (.const (.slice none 0 0))) ∧
  R1 c47_2 1 2 5 (.assign (.const (.int .i64 0))) ∧
  RE c47_2 2 ∧
  Reg C c47_4 ∧
  R1 c47_4 0 1 10 (.move t1) ∧
  R1 c47_4 1 2 11 (.indexAddr 26 t10 (.const (.int .i64 0))) ∧
  R1 c47_4 2 3 12 (.load 28 t11) ∧
  R1 c47_4 3 4 6 (.assign t12) ∧
  RE c47_4 4 ∧
  Reg C c47_7 ∧
  R1 c47_7 0 1 13 (.move t0) ∧
  R1 c47_7 1 2 14 (.move t6) ∧
  R1 c47_7 2 3 15 (.call ⟨.builtin .len, #[t14], #[28]⟩) ∧
  R1 c47_7 3 4 16 (.binOp .geq 3 t13 t15 3) ∧
  RE c47_7 4 ∧
  Reg C c47_10 ∧
  R1 c47_10 0 1 4 (.assign (.const (.slice none 0 0))) ∧
  R1 c47_10 1 2 5 (.assign (.const (.int .i64 13))) ∧
  RE c47_10 2 ∧
  Seq C c47_9 c47_10 .ret ∧
  Cond C c47_8 t16 c47_9 .skip ∧
  Seq C c47_6 c47_7 c47_8 ∧
  Reg C c47_12 ∧
  R1 c47_12 0 1 17 (.move t6) ∧
  R1 c47_12 1 2 18 (.call ⟨.value (.func 35), #[t17], #[28]⟩) ∧
  R1 c47_12 2 3 7 (.assign t18) ∧
  RE c47_12 3 ∧
  Reg C c47_15 ∧
  R1 c47_15 0 1 19 (.move t1) ∧
  R1 c47_15 1 2 20 (.slice 26 t19 (some (.const (.int .i64 1))) none none) ∧
  R1 c47_15 2 3 21 (.call ⟨.builtin .len, #[t20], #[26]⟩) ∧
  R1 c47_15 3 4 22 (.move (.const (.int .i64 0))) ∧
  RE c47_15 4 ∧
  Reg C c47_19 ∧
  R1 c47_19 0 1 23 (.binOp .lss 3 t22 t21 3) ∧
  RE c47_19 1 ∧
  Cond C c47_21 t23 .skip (.exit 0) ∧
  Reg C c47_25 ∧
  R1 c47_25 0 1 24 (.indexAddr 26 t20 t22) ∧
  R1 c47_25 1 2 25 (.load 28 t24) ∧
  R1 c47_25 2 3 9 (.assign t25) ∧
  RE c47_25 3 ∧
  Reg C c47_28 ∧
  R1 c47_28 0 1 26 (.move t9) ∧
  R1 c47_28 1 2 27 (.call ⟨.builtin .len, #[t26], #[28]⟩) ∧
  R1 c47_28 2 3 28 (.move t6) ∧
  R1 c47_28 3 4 29 (.call ⟨.builtin .len, #[t28], #[28]⟩) ∧
  R1 c47_28 4 5 30 (.binOp .neq 3 t27 t29 3) ∧
  R1 c47_28 5 6 31 (.move t30) ∧
  RG c47_28 6 7 (some 32) (.move t9) 31 false ∧
  RG c47_28 7 8 (some 33) (.move t0) 31 false ∧
  RG c47_28 8 9 (some 34) (.buildSlice 23 1 #[(0, t33)]) 31 false ∧
  RG c47_28 9 10 (some 35) (.call ⟨.value (.func 43), #[t32, t34], #[28, 23]⟩) 31 false ∧
  RG c47_28 10 11 (some 36) (.move t6) 31 false ∧
  RG c47_28 11 12 (some 37) (.move t0) 31 false ∧
  RG c47_28 12 13 (some 38) (.buildSlice 23 1 #[(0, t37)]) 31 false ∧
  RG c47_28 13 14 (some 39) (.call ⟨.value (.func 43), #[t36, t38], #[28, 23]⟩) 31 false ∧
  RG c47_28 14 15 (some 40) (.call ⟨.value (.func 38), #[t35, t39], #[28, 28]⟩) 31 false ∧
  RG c47_28 15 16 (some 41) (.unOp .not 4 t40) 31 false ∧
  R1 c47_28 16 17 42 (.pick t31 (.const (.bool true)) t41) ∧
  RE c47_28 17 ∧
  Reg C c47_31 ∧
  R1 c47_31 0 1 4 (.assign (.const (.slice none 0 0))) ∧
  R1 c47_31 1 2 5 (.assign (.const (.int .i64 13))) ∧
  RE c47_31 2 ∧
  Seq C c47_30 c47_31 .ret ∧
  Cond C c47_29 t42 c47_30 .skip ∧
  Seq C c47_27 c47_28 c47_29 ∧
  Draw C c47_32 ∧
  D1 c47_32 0 1 43 (.move t7) ∧
  D1 c47_32 1 2 44 (.move t0) ∧
  D1 c47_32 2 3 45 (.indexAddr 28 t43 t44) ∧
  D1 c47_32 3 4 46 (.load 3 t45) ∧
  D1 c47_32 4 5 47 (.move t9) ∧
  D1 c47_32 5 6 48 (.move t0) ∧
  D1 c47_32 6 7 49 (.indexAddr 28 t47 t48) ∧
  D1 c47_32 7 8 50 (.load 3 t49) ∧
  D1 c47_32 8 9 51 (.binOp .add 3 t46 t50 3) ∧
  D1 c47_32 9 10 52 (.indexAddr 28 t43 t44) ∧
  D0 c47_32 10 11 (.store 3 t52 t51) ∧
  DE c47_32 11 ∧
  Seq C c47_26 c47_27 c47_32 ∧
  Seq C c47_24 c47_25 c47_26 ∧
  Blk C c47_23 1 c47_24 ∧
  Reg C c47_33 ∧
  R1 c47_33 0 1 53 (.binOp .add 3 t22 (.const (.int .i64 1)) 3) ∧
  R1 c47_33 1 2 22 (.move t53) ∧
  RE c47_33 2 ∧
  Seq C c47_22 c47_23 c47_33 ∧
  Seq C c47_20 c47_21 c47_22 ∧
  Seq C c47_18 c47_19 c47_20 ∧
  Lp C c47_17 c47_18 ∧
  Blk C c47_16 0 c47_17 ∧
  Seq C c47_14 c47_15 c47_16 ∧
  Reg C c47_35 ∧
  R1 c47_35 0 1 54 (.move t7) ∧
  R1 c47_35 1 2 55 (.call ⟨.value (.func 60), #[t54], #[28]⟩) ∧
  R1 c47_35 2 3 56 (.extract t55 0) ∧
  R1 c47_35 3 4 57 (.extract t55 1) ∧
  R1 c47_35 4 5 4 (.assign t56) ∧
  R1 c47_35 5 6 5 (.assign t57) ∧
  RE c47_35 6 ∧
  Seq C c47_34 c47_35 .ret ∧
  Seq C c47_13 c47_14 c47_34 ∧
  Seq C c47_11 c47_12 c47_13 ∧
  Seq C c47_5 c47_6 c47_11 ∧
  Seq C c47_3 c47_4 c47_5 ∧
  Seq C c47_1 c47_2 c47_3 :=
  ⟨reg_mk rfl, row1 rfl, row1 rfl, rowE rfl, reg_mk rfl, row1 rfl, row1 rfl, row1 rfl, row1 rfl, rowE rfl, reg_mk rfl, row1 rfl, row1 rfl, row1 rfl, row1 rfl, rowE rfl, reg_mk rfl, row1 rfl, row1 rfl, rowE rfl, seq_mk rfl, cond_mk rfl, seq_mk rfl, reg_mk rfl, row1 rfl, row1 rfl, row1 rfl, rowE rfl, reg_mk rfl, row1 rfl, row1 rfl, row1 rfl, row1 rfl, rowE rfl, reg_mk rfl, row1 rfl, rowE rfl, cond_mk rfl, reg_mk rfl, row1 rfl, row1 rfl, row1 rfl, rowE rfl, reg_mk rfl, row1 rfl, row1 rfl, row1 rfl, row1 rfl, row1 rfl, row1 rfl, rowG rfl rfl, rowG rfl rfl, rowG rfl rfl, rowG rfl rfl, rowG rfl rfl, rowG rfl rfl, rowG rfl rfl, rowG rfl rfl, rowG rfl rfl, rowG rfl rfl, row1 rfl, rowE rfl, reg_mk rfl, row1 rfl, row1 rfl, rowE rfl, seq_mk rfl, cond_mk rfl, seq_mk rfl, draw_mk rfl, dow1 rfl, dow1 rfl, dow1 rfl, dow1 rfl, dow1 rfl, dow1 rfl, dow1 rfl, dow1 rfl, dow1 rfl, dow1 rfl, dow0 rfl, dowE rfl, seq_mk rfl, seq_mk rfl, blk_mk rfl, reg_mk rfl, row1 rfl, row1 rfl, rowE rfl, seq_mk rfl, seq_mk rfl, seq_mk rfl, lp_mk rfl, blk_mk rfl, seq_mk rfl, reg_mk rfl, row1 rfl, row1 rfl, row1 rfl, row1 rfl, row1 rfl, row1 rfl, rowE rfl, seq_mk rfl, seq_mk rfl, seq_mk rfl, seq_mk rfl, seq_mk rfl, seq_mk rfl⟩
theorem body47 : Try.f47.body = some c47_1 := rfl
/-! fluxion/infer.come -/
noncomputable def c24_1 : Code := (Try.f24.body).getD .skip
noncomputable def c24_2 : Code := kid c24_1 0
noncomputable def c24_3 : Code := kid c24_1 1
noncomputable def c24_4 : Code := kid c24_3 0
noncomputable def c24_5 : Code := kid c24_3 1
noncomputable def c24_6 : Code := kid c24_5 0
noncomputable def c24_7 : Code := kid c24_5 1
noncomputable def c24_8 : Code := kid c24_7 0
noncomputable def c24_9 : Code := kid c24_7 1
noncomputable def c24_10 : Code := kid c24_9 0
noncomputable def c24_11 : Code := kid c24_10 0
noncomputable def c24_12 : Code := kid c24_10 1
noncomputable def c24_13 : Code := kid c24_12 0
noncomputable def c24_14 : Code := kid c24_13 0
noncomputable def c24_15 : Code := kid c24_14 0
noncomputable def c24_16 : Code := kid c24_15 0
noncomputable def c24_17 : Code := kid c24_16 0
noncomputable def c24_18 : Code := kid c24_17 0
noncomputable def c24_19 : Code := kid c24_18 0
noncomputable def c24_20 : Code := kid c24_19 0
noncomputable def c24_21 : Code := kid c24_20 0
noncomputable def c24_22 : Code := kid c24_21 0
noncomputable def c24_23 : Code := kid c24_22 0
noncomputable def c24_24 : Code := kid c24_23 0
noncomputable def c24_25 : Code := kid c24_24 0
noncomputable def c24_26 : Code := kid c24_25 0
noncomputable def c24_27 : Code := kid c24_26 0
noncomputable def c24_28 : Code := kid c24_27 0
noncomputable def c24_29 : Code := kid c24_28 0
noncomputable def c24_30 : Code := kid c24_29 0
noncomputable def c24_31 : Code := kid c24_30 0
noncomputable def c24_32 : Code := kid c24_31 0
noncomputable def c24_33 : Code := kid c24_32 0
noncomputable def c24_34 : Code := kid c24_33 0
noncomputable def c24_35 : Code := kid c24_34 0
noncomputable def c24_36 : Code := kid c24_35 0
noncomputable def c24_37 : Code := kid c24_36 0
noncomputable def c24_38 : Code := kid c24_36 1
noncomputable def c24_39 : Code := kid c24_38 1
noncomputable def c24_40 : Code := kid c24_39 0
noncomputable def c24_41 : Code := kid c24_39 1
noncomputable def c24_42 : Code := kid c24_41 1
noncomputable def c24_43 : Code := kid c24_42 0
noncomputable def c24_44 : Code := kid c24_42 1
noncomputable def c24_45 : Code := kid c24_44 1
noncomputable def c24_46 : Code := kid c24_35 1
noncomputable def c24_47 : Code := kid c24_34 1
noncomputable def c24_48 : Code := kid c24_47 0
noncomputable def c24_49 : Code := kid c24_48 0
noncomputable def c24_50 : Code := kid c24_48 1
noncomputable def c24_51 : Code := kid c24_47 1
noncomputable def c24_52 : Code := kid c24_51 0
noncomputable def c24_53 : Code := kid c24_52 0
noncomputable def c24_54 : Code := kid c24_52 1
noncomputable def c24_55 : Code := kid c24_51 1
noncomputable def c24_56 : Code := kid c24_55 0
noncomputable def c24_57 : Code := kid c24_56 0
noncomputable def c24_58 : Code := kid c24_56 1
noncomputable def c24_59 : Code := kid c24_55 1
noncomputable def c24_60 : Code := kid c24_59 0
noncomputable def c24_61 : Code := kid c24_60 0
noncomputable def c24_62 : Code := kid c24_60 1
noncomputable def c24_63 : Code := kid c24_59 1
noncomputable def c24_64 : Code := kid c24_63 0
noncomputable def c24_65 : Code := kid c24_64 0
noncomputable def c24_66 : Code := kid c24_64 1
noncomputable def c24_67 : Code := kid c24_63 1
noncomputable def c24_68 : Code := kid c24_67 0
noncomputable def c24_69 : Code := kid c24_68 0
noncomputable def c24_70 : Code := kid c24_69 0
noncomputable def c24_71 : Code := kid c24_69 1
noncomputable def c24_72 : Code := kid c24_71 1
noncomputable def c24_73 : Code := kid c24_68 1
noncomputable def c24_74 : Code := kid c24_67 1
noncomputable def c24_75 : Code := kid c24_74 0
noncomputable def c24_76 : Code := kid c24_75 0
noncomputable def c24_77 : Code := kid c24_75 1
noncomputable def c24_78 : Code := kid c24_74 1
noncomputable def c24_79 : Code := kid c24_78 0
noncomputable def c24_80 : Code := kid c24_79 0
noncomputable def c24_81 : Code := kid c24_79 1
noncomputable def c24_82 : Code := kid c24_78 1
noncomputable def c24_83 : Code := kid c24_82 0
noncomputable def c24_84 : Code := kid c24_82 1
noncomputable def c24_85 : Code := kid c24_31 1
noncomputable def c24_86 : Code := kid c24_85 0
noncomputable def c24_87 : Code := kid c24_86 0
noncomputable def c24_88 : Code := kid c24_29 1
noncomputable def c24_89 : Code := kid c24_88 0
noncomputable def c24_90 : Code := kid c24_88 1
noncomputable def c24_91 : Code := kid c24_90 0
noncomputable def c24_92 : Code := kid c24_91 0
noncomputable def c24_93 : Code := kid c24_91 1
noncomputable def c24_94 : Code := kid c24_93 0
noncomputable def c24_95 : Code := kid c24_94 0
noncomputable def c24_96 : Code := kid c24_90 1
noncomputable def c24_97 : Code := kid c24_96 0
noncomputable def c24_98 : Code := kid c24_96 1
noncomputable def c24_99 : Code := kid c24_98 0
noncomputable def c24_100 : Code := kid c24_99 0
noncomputable def c24_101 : Code := kid c24_27 1
noncomputable def c24_102 : Code := kid c24_101 0
noncomputable def c24_103 : Code := kid c24_102 0
noncomputable def c24_104 : Code := kid c24_25 1
noncomputable def c24_105 : Code := kid c24_104 0
noncomputable def c24_106 : Code := kid c24_105 0
noncomputable def c24_107 : Code := kid c24_23 1
noncomputable def c24_108 : Code := kid c24_107 0
noncomputable def c24_109 : Code := kid c24_108 0
noncomputable def c24_110 : Code := kid c24_21 1
noncomputable def c24_111 : Code := kid c24_110 0
noncomputable def c24_112 : Code := kid c24_111 0
noncomputable def c24_113 : Code := kid c24_19 1
noncomputable def c24_114 : Code := kid c24_113 0
noncomputable def c24_115 : Code := kid c24_114 0
noncomputable def c24_116 : Code := kid c24_17 1
noncomputable def c24_117 : Code := kid c24_116 0
noncomputable def c24_118 : Code := kid c24_117 0
noncomputable def c24_119 : Code := kid c24_15 1
noncomputable def c24_120 : Code := kid c24_119 0
noncomputable def c24_121 : Code := kid c24_120 0
noncomputable def c24_122 : Code := kid c24_13 1
noncomputable def c24_123 : Code := kid c24_122 0
noncomputable def c24_124 : Code := kid c24_123 0
noncomputable def c24_125 : Code := kid c24_9 1
noncomputable def c24_126 : Code := kid c24_125 0
@[go_sem] theorem w24 : Reg C c24_2 ∧
  R1 c24_2 0 1 6 (.assign (.const (.slice none 0 0))) ∧
  R1 c24_2 1 2 7 (.assign (.const (.int .i64 0))) ∧
  RE c24_2 2 ∧
  Reg C c24_4 ∧
  R1 c24_4 0 1 13 (.move t2) ∧
  R1 c24_4 1 2 14 (.indexAddr 26 t13 (.const (.int .i64 0))) ∧
  R1 c24_4 2 3 15 (.load 28 t14) ∧
  R1 c24_4 3 4 16 (.call ⟨.value (.func 35), #[t15], #[28]⟩) ∧
  R1 c24_4 4 5 8 (.assign t16) ∧
  RE c24_4 5 ∧
  Reg C c24_6 ∧
  R1 c24_6 0 1 17 (.move t1) ∧
  R1 c24_6 1 2 18 (.call ⟨.value (.func 36), #[t17], #[23]⟩) ∧
  R1 c24_6 2 3 9 (.assign t18) ∧
  RE c24_6 3 ∧
  Reg C c24_8 ∧
  R1 c24_8 0 1 10 (.assign (.func 37)) ∧
  RE c24_8 1 ∧
  Reg C c24_11 ∧
  R1 c24_11 0 1 19 (.move t0) ∧
  RE c24_11 1 ∧
  Reg C c24_37 ∧
  R1 c24_37 0 1 21 (.binOp .eql 22 t19 (.const (.int .i64 1)) 22) ∧
  R1 c24_37 1 2 20 (.assign t21) ∧
  RE c24_37 2 ∧
  Reg C c24_40 ∧
  R1 c24_40 0 1 22 (.binOp .eql 22 t19 (.const (.int .i64 2)) 22) ∧
  R1 c24_40 1 2 20 (.assign t22) ∧
  RE c24_40 2 ∧
  Reg C c24_43 ∧
  R1 c24_43 0 1 23 (.binOp .eql 22 t19 (.const (.int .i64 3)) 22) ∧
  R1 c24_43 1 2 20 (.assign t23) ∧
  RE c24_43 2 ∧
  Reg C c24_45 ∧
  R1 c24_45 0 1 24 (.binOp .eql 22 t19 (.const (.int .i64 4)) 22) ∧
  R1 c24_45 1 2 20 (.assign t24) ∧
  RE c24_45 2 ∧
  Cond C c24_44 t20 .skip c24_45 ∧
  Seq C c24_42 c24_43 c24_44 ∧
  Cond C c24_41 t20 .skip c24_42 ∧
  Seq C c24_39 c24_40 c24_41 ∧
  Cond C c24_38 t20 .skip c24_39 ∧
  Seq C c24_36 c24_37 c24_38 ∧
  Cond C c24_46 t20 (.exit 1) .skip ∧
  Seq C c24_35 c24_36 c24_46 ∧
  Reg C c24_49 ∧
  R1 c24_49 0 1 26 (.binOp .eql 22 t19 (.const (.int .i64 19)) 22) ∧
  R1 c24_49 1 2 25 (.assign t26) ∧
  RE c24_49 2 ∧
  Cond C c24_50 t25 (.exit 2) .skip ∧
  Seq C c24_48 c24_49 c24_50 ∧
  Reg C c24_53 ∧
  R1 c24_53 0 1 28 (.binOp .eql 22 t19 (.const (.int .i64 10)) 22) ∧
  R1 c24_53 1 2 27 (.assign t28) ∧
  RE c24_53 2 ∧
  Cond C c24_54 t27 (.exit 3) .skip ∧
  Seq C c24_52 c24_53 c24_54 ∧
  Reg C c24_57 ∧
  R1 c24_57 0 1 30 (.binOp .eql 22 t19 (.const (.int .i64 11)) 22) ∧
  R1 c24_57 1 2 29 (.assign t30) ∧
  RE c24_57 2 ∧
  Cond C c24_58 t29 (.exit 4) .skip ∧
  Seq C c24_56 c24_57 c24_58 ∧
  Reg C c24_61 ∧
  R1 c24_61 0 1 32 (.binOp .eql 22 t19 (.const (.int .i64 12)) 22) ∧
  R1 c24_61 1 2 31 (.assign t32) ∧
  RE c24_61 2 ∧
  Cond C c24_62 t31 (.exit 5) .skip ∧
  Seq C c24_60 c24_61 c24_62 ∧
  Reg C c24_65 ∧
  R1 c24_65 0 1 34 (.binOp .eql 22 t19 (.const (.int .i64 13)) 22) ∧
  R1 c24_65 1 2 33 (.assign t34) ∧
  RE c24_65 2 ∧
  Cond C c24_66 t33 (.exit 6) .skip ∧
  Seq C c24_64 c24_65 c24_66 ∧
  Reg C c24_70 ∧
  R1 c24_70 0 1 36 (.binOp .eql 22 t19 (.const (.int .i64 14)) 22) ∧
  R1 c24_70 1 2 35 (.assign t36) ∧
  RE c24_70 2 ∧
  Reg C c24_72 ∧
  R1 c24_72 0 1 37 (.binOp .eql 22 t19 (.const (.int .i64 20)) 22) ∧
  R1 c24_72 1 2 35 (.assign t37) ∧
  RE c24_72 2 ∧
  Cond C c24_71 t35 .skip c24_72 ∧
  Seq C c24_69 c24_70 c24_71 ∧
  Cond C c24_73 t35 (.exit 7) .skip ∧
  Seq C c24_68 c24_69 c24_73 ∧
  Reg C c24_76 ∧
  R1 c24_76 0 1 39 (.binOp .eql 22 t19 (.const (.int .i64 15)) 22) ∧
  R1 c24_76 1 2 38 (.assign t39) ∧
  RE c24_76 2 ∧
  Cond C c24_77 t38 (.exit 8) .skip ∧
  Seq C c24_75 c24_76 c24_77 ∧
  Reg C c24_80 ∧
  R1 c24_80 0 1 41 (.binOp .eql 22 t19 (.const (.int .i64 16)) 22) ∧
  R1 c24_80 1 2 40 (.assign t41) ∧
  RE c24_80 2 ∧
  Cond C c24_81 t40 (.exit 9) .skip ∧
  Seq C c24_79 c24_80 c24_81 ∧
  Reg C c24_83 ∧
  R1 c24_83 0 1 43 (.binOp .eql 22 t19 (.const (.int .i64 17)) 22) ∧
  R1 c24_83 1 2 42 (.assign t43) ∧
  RE c24_83 2 ∧
  Cond C c24_84 t42 (.exit 10) .skip ∧
  Seq C c24_82 c24_83 c24_84 ∧
  Seq C c24_78 c24_79 c24_82 ∧
  Seq C c24_74 c24_75 c24_78 ∧
  Seq C c24_67 c24_68 c24_74 ∧
  Seq C c24_63 c24_64 c24_67 ∧
  Seq C c24_59 c24_60 c24_63 ∧
  Seq C c24_55 c24_56 c24_59 ∧
  Seq C c24_51 c24_52 c24_55 ∧
  Seq C c24_47 c24_48 c24_51 ∧
  Seq C c24_34 c24_35 c24_47 ∧
  Seq C c24_33 c24_34 (.exit 0) ∧
  Blk C c24_32 1 c24_33 ∧
  Reg C c24_87 ∧
  R1 c24_87 0 1 44 (.move t10) ∧
  R1 c24_87 1 2 45 (.move t8) ∧
  R1 c24_87 2 3 46 (.move t2) ∧
  R1 c24_87 3 4 47 (.indexAddr 26 t46 (.const (.int .i64 1))) ∧
  R1 c24_87 4 5 48 (.load 28 t47) ∧
  R1 c24_87 5 6 49 (.call ⟨.value (.func 38), #[t45, t48], #[28, 28]⟩) ∧
  R1 c24_87 6 7 50 (.move t8) ∧
  R1 c24_87 7 8 51 (.call ⟨.value t44, #[t49, t50], #[4, 28]⟩) ∧
  R1 c24_87 8 9 52 (.extract t51 0) ∧
  R1 c24_87 9 10 53 (.extract t51 1) ∧
  R1 c24_87 10 11 6 (.assign t52) ∧
  R1 c24_87 11 12 7 (.assign t53) ∧
  RE c24_87 12 ∧
  Seq C c24_86 c24_87 .ret ∧
  Seq C c24_85 c24_86 (.exit 0) ∧
  Seq C c24_31 c24_32 c24_85 ∧
  Blk C c24_30 2 c24_31 ∧
  Reg C c24_89 ∧
  R1 c24_89 0 1 55 (.move t8) ∧
  R1 c24_89 1 2 56 (.move t2) ∧
  R1 c24_89 2 3 57 (.indexAddr 26 t56 (.const (.int .i64 1))) ∧
  R1 c24_89 3 4 58 (.load 28 t57) ∧
  R1 c24_89 4 5 59 (.call ⟨.value (.func 39), #[t55, t58], #[28, 28]⟩) ∧
  R1 c24_89 5 6 54 (.move t59) ∧
  R1 c24_89 6 7 60 (.extract t54 0) ∧
  R1 c24_89 7 8 61 (.extract t54 1) ∧
  R1 c24_89 8 9 11 (.assign t60) ∧
  R1 c24_89 9 10 12 (.assign t61) ∧
  RE c24_89 10 ∧
  Reg C c24_92 ∧
  R1 c24_92 0 1 62 (.move t12) ∧
  R1 c24_92 1 2 63 (.binOp .eql 29 t62 (.const (.int .i64 0)) 29) ∧
  R1 c24_92 2 3 64 (.move t63) ∧
  RG c24_92 3 4 (some 65) (.move t2) 64 true ∧
  RG c24_92 4 5 (some 66) (.indexAddr 26 t65 (.const (.int .i64 2))) 64 true ∧
  RG c24_92 5 6 (some 67) (.load 28 t66) 64 true ∧
  RG c24_92 6 7 (some 68) (.move t11) 64 true ∧
  RG c24_92 7 8 (some 69) (.call ⟨.value (.func 40), #[t67, t68], #[28, 28]⟩) 64 true ∧
  RG c24_92 8 9 (some 70) (.binOp .neq 29 t69 (.const (.int .i64 0)) 29) 64 true ∧
  R1 c24_92 9 10 71 (.pick t64 t70 (.const (.bool false))) ∧
  RE c24_92 10 ∧
  Reg C c24_95 ∧
  R1 c24_95 0 1 6 (.assign (.const (.slice none 0 0))) ∧
  R1 c24_95 1 2 7 (.assign (.const (.int .i64 13))) ∧
  RE c24_95 2 ∧
  Seq C c24_94 c24_95 .ret ∧
  Cond C c24_93 t71 c24_94 .skip ∧
  Seq C c24_91 c24_92 c24_93 ∧
  Reg C c24_97 ∧
  R1 c24_97 0 1 72 (.move t12) ∧
  R1 c24_97 1 2 73 (.binOp .neq 29 t72 (.const (.int .i64 0)) 29) ∧
  RE c24_97 2 ∧
  Reg C c24_100 ∧
  R1 c24_100 0 1 74 (.move t12) ∧
  R1 c24_100 1 2 6 (.assign (.const (.slice none 0 0))) ∧
  R1 c24_100 2 3 7 (.assign t74) ∧
  RE c24_100 3 ∧
  Seq C c24_99 c24_100 .ret ∧
  Cond C c24_98 t73 c24_99 .skip ∧
  Seq C c24_96 c24_97 c24_98 ∧
  Seq C c24_90 c24_91 c24_96 ∧
  Seq C c24_88 c24_89 c24_90 ∧
  Seq C c24_29 c24_30 c24_88 ∧
  Blk C c24_28 3 c24_29 ∧
  Reg C c24_103 ∧
  R1 c24_103 0 1 75 (.move t8) ∧
  R1 c24_103 1 2 76 (.move t2) ∧
  R1 c24_103 2 3 77 (.indexAddr 26 t76 (.const (.int .i64 1))) ∧
  R1 c24_103 3 4 78 (.load 28 t77) ∧
  R1 c24_103 4 5 79 (.call ⟨.value (.func 39), #[t75, t78], #[28, 28]⟩) ∧
  R1 c24_103 5 6 80 (.extract t79 0) ∧
  R1 c24_103 6 7 81 (.extract t79 1) ∧
  R1 c24_103 7 8 6 (.assign t80) ∧
  R1 c24_103 8 9 7 (.assign t81) ∧
  RE c24_103 9 ∧
  Seq C c24_102 c24_103 .ret ∧
  Seq C c24_101 c24_102 (.exit 0) ∧
  Seq C c24_27 c24_28 c24_101 ∧
  Blk C c24_26 4 c24_27 ∧
  Reg C c24_106 ∧
  R1 c24_106 0 1 82 (.move t8) ∧
  R1 c24_106 1 2 83 (.move t1) ∧
  R1 c24_106 2 3 84 (.call ⟨.value (.func 41), #[t82, t83], #[28, 23]⟩) ∧
  R1 c24_106 3 4 85 (.extract t84 0) ∧
  R1 c24_106 4 5 86 (.extract t84 1) ∧
  R1 c24_106 5 6 6 (.assign t85) ∧
  R1 c24_106 6 7 7 (.assign t86) ∧
  RE c24_106 7 ∧
  Seq C c24_105 c24_106 .ret ∧
  Seq C c24_104 c24_105 (.exit 0) ∧
  Seq C c24_25 c24_26 c24_104 ∧
  Blk C c24_24 5 c24_25 ∧
  Reg C c24_109 ∧
  R1 c24_109 0 1 87 (.move t10) ∧
  R1 c24_109 1 2 88 (.move t8) ∧
  R1 c24_109 2 3 89 (.call ⟨.value (.func 29), #[t88], #[28]⟩) ∧
  R1 c24_109 3 4 90 (.move t9) ∧
  R1 c24_109 4 5 91 (.call ⟨.value (.func 29), #[t90], #[28]⟩) ∧
  R1 c24_109 5 6 92 (.binOp .eql 3 t89 t91 3) ∧
  R1 c24_109 6 7 93 (.move t9) ∧
  R1 c24_109 7 8 94 (.call ⟨.value t87, #[t92, t93], #[4, 28]⟩) ∧
  R1 c24_109 8 9 95 (.extract t94 0) ∧
  R1 c24_109 9 10 96 (.extract t94 1) ∧
  R1 c24_109 10 11 6 (.assign t95) ∧
  R1 c24_109 11 12 7 (.assign t96) ∧
  RE c24_109 12 ∧
  Seq C c24_108 c24_109 .ret ∧
  Seq C c24_107 c24_108 (.exit 0) ∧
  Seq C c24_23 c24_24 c24_107 ∧
  Blk C c24_22 6 c24_23 ∧
  Reg C c24_112 ∧
  R1 c24_112 0 1 97 (.move t10) ∧
  R1 c24_112 1 2 98 (.move t8) ∧
  R1 c24_112 2 3 99 (.move t9) ∧
  R1 c24_112 3 4 100 (.call ⟨.value (.func 40), #[t98, t99], #[28, 28]⟩) ∧
  R1 c24_112 4 5 101 (.binOp .eql 29 t100 (.const (.int .i64 0)) 29) ∧
  R1 c24_112 5 6 102 (.move t9) ∧
  R1 c24_112 6 7 103 (.call ⟨.value t97, #[t101, t102], #[4, 28]⟩) ∧
  R1 c24_112 7 8 104 (.extract t103 0) ∧
  R1 c24_112 8 9 105 (.extract t103 1) ∧
  R1 c24_112 9 10 6 (.assign t104) ∧
  R1 c24_112 10 11 7 (.assign t105) ∧
  RE c24_112 11 ∧
  Seq C c24_111 c24_112 .ret ∧
  Seq C c24_110 c24_111 (.exit 0) ∧
  Seq C c24_21 c24_22 c24_110 ∧
  Blk C c24_20 7 c24_21 ∧
  Reg C c24_115 ∧
  R1 c24_115 0 1 106 (.move t10) ∧
  R1 c24_115 1 2 107 (.move t1) ∧
  R1 c24_115 2 3 108 (.move t8) ∧
  R1 c24_115 3 4 109 (.call ⟨.builtin .len, #[t108], #[28]⟩) ∧
  R1 c24_115 4 5 110 (.call ⟨.value (.func 42), #[t107, t109], #[23, 3]⟩) ∧
  R1 c24_115 5 6 111 (.binOp .eql 29 t110 (.const (.int .i64 0)) 29) ∧
  R1 c24_115 6 7 112 (.move t8) ∧
  R1 c24_115 7 8 113 (.move t1) ∧
  R1 c24_115 8 9 114 (.call ⟨.value (.func 43), #[t112, t113], #[28, 23]⟩) ∧
  R1 c24_115 9 10 115 (.call ⟨.value t106, #[t111, t114], #[4, 28]⟩) ∧
  R1 c24_115 10 11 116 (.extract t115 0) ∧
  R1 c24_115 11 12 117 (.extract t115 1) ∧
  R1 c24_115 12 13 6 (.assign t116) ∧
  R1 c24_115 13 14 7 (.assign t117) ∧
  RE c24_115 14 ∧
  Seq C c24_114 c24_115 .ret ∧
  Seq C c24_113 c24_114 (.exit 0) ∧
  Seq C c24_19 c24_20 c24_113 ∧
  Blk C c24_18 8 c24_19 ∧
  Reg C c24_118 ∧
  R1 c24_118 0 1 118 (.move t8) ∧
  R1 c24_118 1 2 119 (.move t1) ∧
  R1 c24_118 2 3 120 (.call ⟨.value (.func 44), #[t118, t119, .func 45], #[28, 23, 72]⟩) ∧
  R1 c24_118 3 4 121 (.extract t120 0) ∧
  R1 c24_118 4 5 122 (.extract t120 1) ∧
  R1 c24_118 5 6 6 (.assign t121) ∧
  R1 c24_118 6 7 7 (.assign t122) ∧
  RE c24_118 7 ∧
  Seq C c24_117 c24_118 .ret ∧
  Seq C c24_116 c24_117 (.exit 0) ∧
  Seq C c24_17 c24_18 c24_116 ∧
  Blk C c24_16 9 c24_17 ∧
  Reg C c24_121 ∧
  R1 c24_121 0 1 123 (.move t8) ∧
  R1 c24_121 1 2 124 (.move t1) ∧
  R1 c24_121 2 3 125 (.call ⟨.value (.func 44), #[t123, t124, .func 46], #[28, 23, 72]⟩) ∧
  R1 c24_121 3 4 126 (.extract t125 0) ∧
  R1 c24_121 4 5 127 (.extract t125 1) ∧
  R1 c24_121 5 6 6 (.assign t126) ∧
  R1 c24_121 6 7 7 (.assign t127) ∧
  RE c24_121 7 ∧
  Seq C c24_120 c24_121 .ret ∧
  Seq C c24_119 c24_120 (.exit 0) ∧
  Seq C c24_15 c24_16 c24_119 ∧
  Blk C c24_14 10 c24_15 ∧
  Reg C c24_124 ∧
  R1 c24_124 0 1 128 (.move t1) ∧
  R1 c24_124 1 2 129 (.indexAddr 23 t128 (.const (.int .i64 0))) ∧
  R1 c24_124 2 3 130 (.load 3 t129) ∧
  R1 c24_124 3 4 131 (.move t2) ∧
  R1 c24_124 4 5 132 (.call ⟨.value (.func 47), #[t130, t131], #[3, 26]⟩) ∧
  R1 c24_124 5 6 133 (.extract t132 0) ∧
  R1 c24_124 6 7 134 (.extract t132 1) ∧
  R1 c24_124 7 8 6 (.assign t133) ∧
  R1 c24_124 8 9 7 (.assign t134) ∧
  RE c24_124 9 ∧
  Seq C c24_123 c24_124 .ret ∧
  Seq C c24_122 c24_123 (.exit 0) ∧
  Seq C c24_13 c24_14 c24_122 ∧
  Blk C c24_12 0 c24_13 ∧
  Seq C c24_10 c24_11 c24_12 ∧
  Reg C c24_126 ∧
  R1 c24_126 0 1 135 (.move t8) ∧
  R1 c24_126 1 2 6 (.assign t135) ∧
  R1 c24_126 2 3 7 (.assign (.const (.int .i64 0))) ∧
  RE c24_126 3 ∧
  Seq C c24_125 c24_126 .ret ∧
  Seq C c24_9 c24_10 c24_125 ∧
  Seq C c24_7 c24_8 c24_9 ∧
  Seq C c24_5 c24_6 c24_7 ∧
  Seq C c24_3 c24_4 c24_5 ∧
  Seq C c24_1 c24_2 c24_3 :=
  ⟨reg_mk rfl, row1 rfl, row1 rfl, rowE rfl, reg_mk rfl, row1 rfl, row1 rfl, row1 rfl, row1 rfl, row1 rfl, rowE rfl, reg_mk rfl, row1 rfl, row1 rfl, row1 rfl, rowE rfl, reg_mk rfl, row1 rfl, rowE rfl, reg_mk rfl, row1 rfl, rowE rfl, reg_mk rfl, row1 rfl, row1 rfl, rowE rfl, reg_mk rfl, row1 rfl, row1 rfl, rowE rfl, reg_mk rfl, row1 rfl, row1 rfl, rowE rfl, reg_mk rfl, row1 rfl, row1 rfl, rowE rfl, cond_mk rfl, seq_mk rfl, cond_mk rfl, seq_mk rfl, cond_mk rfl, seq_mk rfl, cond_mk rfl, seq_mk rfl, reg_mk rfl, row1 rfl, row1 rfl, rowE rfl, cond_mk rfl, seq_mk rfl, reg_mk rfl, row1 rfl, row1 rfl, rowE rfl, cond_mk rfl, seq_mk rfl, reg_mk rfl, row1 rfl, row1 rfl, rowE rfl, cond_mk rfl, seq_mk rfl, reg_mk rfl, row1 rfl, row1 rfl, rowE rfl, cond_mk rfl, seq_mk rfl, reg_mk rfl, row1 rfl, row1 rfl, rowE rfl, cond_mk rfl, seq_mk rfl, reg_mk rfl, row1 rfl, row1 rfl, rowE rfl, reg_mk rfl, row1 rfl, row1 rfl, rowE rfl, cond_mk rfl, seq_mk rfl, cond_mk rfl, seq_mk rfl, reg_mk rfl, row1 rfl, row1 rfl, rowE rfl, cond_mk rfl, seq_mk rfl, reg_mk rfl, row1 rfl, row1 rfl, rowE rfl, cond_mk rfl, seq_mk rfl, reg_mk rfl, row1 rfl, row1 rfl, rowE rfl, cond_mk rfl, seq_mk rfl, seq_mk rfl, seq_mk rfl, seq_mk rfl, seq_mk rfl, seq_mk rfl, seq_mk rfl, seq_mk rfl, seq_mk rfl, seq_mk rfl, seq_mk rfl, blk_mk rfl, reg_mk rfl, row1 rfl, row1 rfl, row1 rfl, row1 rfl, row1 rfl, row1 rfl, row1 rfl, row1 rfl, row1 rfl, row1 rfl, row1 rfl, row1 rfl, rowE rfl, seq_mk rfl, seq_mk rfl, seq_mk rfl, blk_mk rfl, reg_mk rfl, row1 rfl, row1 rfl, row1 rfl, row1 rfl, row1 rfl, row1 rfl, row1 rfl, row1 rfl, row1 rfl, row1 rfl, rowE rfl, reg_mk rfl, row1 rfl, row1 rfl, row1 rfl, rowG rfl rfl, rowG rfl rfl, rowG rfl rfl, rowG rfl rfl, rowG rfl rfl, rowG rfl rfl, row1 rfl, rowE rfl, reg_mk rfl, row1 rfl, row1 rfl, rowE rfl, seq_mk rfl, cond_mk rfl, seq_mk rfl, reg_mk rfl, row1 rfl, row1 rfl, rowE rfl, reg_mk rfl, row1 rfl, row1 rfl, row1 rfl, rowE rfl, seq_mk rfl, cond_mk rfl, seq_mk rfl, seq_mk rfl, seq_mk rfl, seq_mk rfl, blk_mk rfl, reg_mk rfl, row1 rfl, row1 rfl, row1 rfl, row1 rfl, row1 rfl, row1 rfl, row1 rfl, row1 rfl, row1 rfl, rowE rfl, seq_mk rfl, seq_mk rfl, seq_mk rfl, blk_mk rfl, reg_mk rfl, row1 rfl, row1 rfl, row1 rfl, row1 rfl, row1 rfl, row1 rfl, row1 rfl, rowE rfl, seq_mk rfl, seq_mk rfl, seq_mk rfl, blk_mk rfl, reg_mk rfl, row1 rfl, row1 rfl, row1 rfl, row1 rfl, row1 rfl, row1 rfl, row1 rfl, row1 rfl, row1 rfl, row1 rfl, row1 rfl, row1 rfl, rowE rfl, seq_mk rfl, seq_mk rfl, seq_mk rfl, blk_mk rfl, reg_mk rfl, row1 rfl, row1 rfl, row1 rfl, row1 rfl, row1 rfl, row1 rfl, row1 rfl, row1 rfl, row1 rfl, row1 rfl, row1 rfl, rowE rfl, seq_mk rfl, seq_mk rfl, seq_mk rfl, blk_mk rfl, reg_mk rfl, row1 rfl, row1 rfl, row1 rfl, row1 rfl, row1 rfl, row1 rfl, row1 rfl, row1 rfl, row1 rfl, row1 rfl, row1 rfl, row1 rfl, row1 rfl, row1 rfl, rowE rfl, seq_mk rfl, seq_mk rfl, seq_mk rfl, blk_mk rfl, reg_mk rfl, row1 rfl, row1 rfl, row1 rfl, row1 rfl, row1 rfl, row1 rfl, row1 rfl, rowE rfl, seq_mk rfl, seq_mk rfl, seq_mk rfl, blk_mk rfl, reg_mk rfl, row1 rfl, row1 rfl, row1 rfl, row1 rfl, row1 rfl, row1 rfl, row1 rfl, rowE rfl, seq_mk rfl, seq_mk rfl, seq_mk rfl, blk_mk rfl, reg_mk rfl, row1 rfl, row1 rfl, row1 rfl, row1 rfl, row1 rfl, row1 rfl, row1 rfl, row1 rfl, row1 rfl, rowE rfl, seq_mk rfl, seq_mk rfl, seq_mk rfl, blk_mk rfl, seq_mk rfl, reg_mk rfl, row1 rfl, row1 rfl, row1 rfl, rowE rfl, seq_mk rfl, seq_mk rfl, seq_mk rfl, seq_mk rfl, seq_mk rfl, seq_mk rfl⟩
theorem body24 : Try.f24.body = some c24_1 := rfl
/-! fluxion/infer.come$1 -/
noncomputable def c37_1 : Code := (Try.f37.body).getD .skip
noncomputable def c37_2 : Code := kid c37_1 0
noncomputable def c37_3 : Code := kid c37_1 1
noncomputable def c37_4 : Code := kid c37_3 0
noncomputable def c37_5 : Code := kid c37_4 0
noncomputable def c37_6 : Code := kid c37_4 1
noncomputable def c37_7 : Code := kid c37_6 0
noncomputable def c37_8 : Code := kid c37_7 0
noncomputable def c37_9 : Code := kid c37_3 1
noncomputable def c37_10 : Code := kid c37_9 0
@[go_sem] theorem w37 : Reg C c37_2 ∧
  R1 c37_2 0 1 4 (.assign (.const (.slice none 0 0))) ∧
  R1 c37_2 1 2 5 (.assign (.const (.int .i64 0))) ∧
  RE c37_2 2 ∧
  Reg C c37_5 ∧
  R1 c37_5 0 1 6 (.move t0) ∧
  R1 c37_5 1 2 7 (.unOp .not 4 t6) ∧
  RE c37_5 2 ∧
  Reg C c37_8 ∧
  R1 c37_8 0 1 4 (.assign (.const (.slice none 0 0))) ∧
  R1 c37_8 1 2 5 (.assign (.const (.int .i64 13))) ∧
  RE c37_8 2 ∧
  Seq C c37_7 c37_8 .ret ∧
  Cond C c37_6 t7 c37_7 .skip ∧
  Seq C c37_4 c37_5 c37_6 ∧
  Reg C c37_10 ∧
  R1 c37_10 0 1 8 (.move t1) ∧
  R1 c37_10 1 2 4 (.assign t8) ∧
  R1 c37_10 2 3 5 (.assign (.const (.int .i64 0))) ∧
  RE c37_10 3 ∧
  Seq C c37_9 c37_10 .ret ∧
  Seq C c37_3 c37_4 c37_9 ∧
  Seq C c37_1 c37_2 c37_3 :=
  ⟨reg_mk rfl, row1 rfl, row1 rfl, rowE rfl, reg_mk rfl, row1 rfl, row1 rfl, rowE rfl, reg_mk rfl, row1 rfl, row1 rfl, rowE rfl, seq_mk rfl, cond_mk rfl, seq_mk rfl, reg_mk rfl, row1 rfl, row1 rfl, row1 rfl, rowE rfl, seq_mk rfl, seq_mk rfl, seq_mk rfl⟩
theorem body37 : Try.f37.body = some c37_1 := rfl
/-! fluxion/infer.come$2 -/
noncomputable def c45_1 : Code := (Try.f45.body).getD .skip
noncomputable def c45_2 : Code := kid c45_1 0
noncomputable def c45_3 : Code := kid c45_1 1
noncomputable def c45_4 : Code := kid c45_3 0
@[go_sem] theorem w45 : Reg C c45_2 ∧
  R1 c45_2 0 1 6 (.assign (.const (.int .i64 0))) ∧
  R1 c45_2 1 2 7 (.assign (.const (.bool false))) ∧
  RE c45_2 2 ∧
  Reg C c45_4 ∧
  R1 c45_4 0 1 8 (.move t2) ∧
  R1 c45_4 1 2 9 (.move t1) ∧
  R1 c45_4 2 3 10 (.binOp .sub 3 t8 t9 3) ∧
  R1 c45_4 3 4 11 (.move t2) ∧
  R1 c45_4 4 5 12 (.move t0) ∧
  R1 c45_4 5 6 13 (.binOp .leq 3 t11 t12 3) ∧
  R1 c45_4 6 7 6 (.assign t10) ∧
  R1 c45_4 7 8 7 (.assign t13) ∧
  RE c45_4 8 ∧
  Seq C c45_3 c45_4 .ret ∧
  Seq C c45_1 c45_2 c45_3 :=
  ⟨reg_mk rfl, row1 rfl, row1 rfl, rowE rfl, reg_mk rfl, row1 rfl, row1 rfl, row1 rfl, row1 rfl, row1 rfl, row1 rfl, row1 rfl, row1 rfl, rowE rfl, seq_mk rfl, seq_mk rfl⟩
theorem body45 : Try.f45.body = some c45_1 := rfl
/-! fluxion/infer.come$3 -/
noncomputable def c46_1 : Code := (Try.f46.body).getD .skip
noncomputable def c46_2 : Code := kid c46_1 0
noncomputable def c46_3 : Code := kid c46_1 1
noncomputable def c46_4 : Code := kid c46_3 0
@[go_sem] theorem w46 : Reg C c46_2 ∧
  R1 c46_2 0 1 6 (.assign (.const (.int .i64 0))) ∧
  R1 c46_2 1 2 7 (.assign (.const (.bool false))) ∧
  RE c46_2 2 ∧
  Reg C c46_4 ∧
  R1 c46_4 0 1 8 (.move t0) ∧
  R1 c46_4 1 2 9 (.move t1) ∧
  R1 c46_4 2 3 10 (.binOp .add 3 t8 t9 3) ∧
  R1 c46_4 3 4 11 (.move t2) ∧
  R1 c46_4 4 5 12 (.binOp .add 3 t10 t11 3) ∧
  R1 c46_4 5 6 6 (.assign t12) ∧
  R1 c46_4 6 7 7 (.assign (.const (.bool true))) ∧
  RE c46_4 7 ∧
  Seq C c46_3 c46_4 .ret ∧
  Seq C c46_1 c46_2 c46_3 :=
  ⟨reg_mk rfl, row1 rfl, row1 rfl, rowE rfl, reg_mk rfl, row1 rfl, row1 rfl, row1 rfl, row1 rfl, row1 rfl, row1 rfl, row1 rfl, rowE rfl, seq_mk rfl, seq_mk rfl⟩
theorem body46 : Try.f46.body = some c46_1 := rfl
/-! fluxion/infer.Shape -/
noncomputable def c10_1 : Code := (Try.f10.body).getD .skip
noncomputable def c10_2 : Code := kid c10_1 0
noncomputable def c10_3 : Code := kid c10_1 1
noncomputable def c10_4 : Code := kid c10_3 0
noncomputable def c10_5 : Code := kid c10_4 0
noncomputable def c10_6 : Code := kid c10_4 1
noncomputable def c10_7 : Code := kid c10_6 0
noncomputable def c10_8 : Code := kid c10_6 1
noncomputable def c10_9 : Code := kid c10_8 0
noncomputable def c10_10 : Code := kid c10_9 0
noncomputable def c10_11 : Code := kid c10_3 1
noncomputable def c10_12 : Code := kid c10_11 0
noncomputable def c10_13 : Code := kid c10_12 0
noncomputable def c10_14 : Code := kid c10_12 1
noncomputable def c10_15 : Code := kid c10_14 0
noncomputable def c10_16 : Code := kid c10_15 0
noncomputable def c10_17 : Code := kid c10_11 1
noncomputable def c10_18 : Code := kid c10_17 0
noncomputable def c10_19 : Code := kid c10_18 0
noncomputable def c10_20 : Code := kid c10_18 1
noncomputable def c10_21 : Code := kid c10_20 0
noncomputable def c10_22 : Code := kid c10_21 0
noncomputable def c10_23 : Code := kid c10_22 0
noncomputable def c10_24 : Code := kid c10_22 1
noncomputable def c10_25 : Code := kid c10_24 0
noncomputable def c10_26 : Code := kid c10_24 1
noncomputable def c10_27 : Code := kid c10_26 0
noncomputable def c10_28 : Code := kid c10_27 0
noncomputable def c10_29 : Code := kid c10_28 0
noncomputable def c10_30 : Code := kid c10_28 1
noncomputable def c10_31 : Code := kid c10_30 0
noncomputable def c10_32 : Code := kid c10_30 1
noncomputable def c10_33 : Code := kid c10_32 0
noncomputable def c10_34 : Code := kid c10_32 1
noncomputable def c10_35 : Code := kid c10_34 0
noncomputable def c10_36 : Code := kid c10_35 0
noncomputable def c10_37 : Code := kid c10_26 1
noncomputable def c10_38 : Code := kid c10_17 1
noncomputable def c10_39 : Code := kid c10_38 0
@[go_sem] theorem w10 : Reg C c10_2 ∧
  R1 c10_2 0 1 4 (.box 25 t1) ∧
  R1 c10_2 1 2 6 (.assign (.const (.slice none 0 0))) ∧
  R1 c10_2 2 3 7 (.assign (.const (.int .i64 0))) ∧
  RE c10_2 3 ∧
  Reg C c10_5 ∧
  R1 c10_5 0 1 12 (.move t0) ∧
  R1 c10_5 1 2 13 (.load 25 t4) ∧
  R1 c10_5 2 3 14 (.call ⟨.value (.func 22), #[t12, t13], #[3, 25]⟩) ∧
  R1 c10_5 3 4 8 (.assign t14) ∧
  RE c10_5 4 ∧
  Reg C c10_7 ∧
  R1 c10_7 0 1 15 (.move t8) ∧
  R1 c10_7 1 2 16 (.binOp .neq 29 t15 (.const (.int .i64 0)) 29) ∧
  RE c10_7 2 ∧
  Reg C c10_10 ∧
  R1 c10_10 0 1 17 (.move t8) ∧
  R1 c10_10 1 2 6 (.assign (.const (.slice none 0 0))) ∧
  R1 c10_10 2 3 7 (.assign t17) ∧
  RE c10_10 3 ∧
  Seq C c10_9 c10_10 .ret ∧
  Cond C c10_8 t16 c10_9 .skip ∧
  Seq C c10_6 c10_7 c10_8 ∧
  Seq C c10_4 c10_5 c10_6 ∧
  Reg C c10_13 ∧
  R1 c10_13 0 1 18 (.move t2) ∧
  R1 c10_13 1 2 19 (.call ⟨.builtin .len, #[t18], #[26]⟩) ∧
  R1 c10_13 2 3 20 (.fieldAddr 25 t4 1) ∧
  R1 c10_13 3 4 21 (.load 23 t20) ∧
  R1 c10_13 4 5 22 (.call ⟨.builtin .len, #[t21], #[23]⟩) ∧
  R1 c10_13 5 6 23 (.binOp .neq 3 t19 t22 3) ∧
  RE c10_13 6 ∧
  Reg C c10_16 ∧
  R1 c10_16 0 1 6 (.assign (.const (.slice none 0 0))) ∧
  R1 c10_16 1 2 7 (.assign (.const (.int .i64 10))) ∧
  RE c10_16 2 ∧
  Seq C c10_15 c10_16 .ret ∧
  Cond C c10_14 t23 c10_15 .skip ∧
  Seq C c10_12 c10_13 c10_14 ∧
  Reg C c10_19 ∧
  R1 c10_19 0 1 24 (.move t2) ∧
  R1 c10_19 1 2 25 (.call ⟨.builtin .len, #[t24], #[26]⟩) ∧
  R1 c10_19 2 3 26 (.move (.const (.int .i64 0))) ∧
  RE c10_19 3 ∧
  Reg C c10_23 ∧
  R1 c10_23 0 1 27 (.binOp .lss 3 t26 t25 3) ∧
  RE c10_23 1 ∧
  Cond C c10_25 t27 .skip (.exit 0) ∧
  Reg C c10_29 ∧
  R1 c10_29 0 1 28 (.indexAddr 26 t24 t26) ∧
  R1 c10_29 1 2 29 (.load 28 t28) ∧
  R1 c10_29 2 3 10 (.assign t29) ∧
  RE c10_29 3 ∧
  Reg C c10_31 ∧
  R1 c10_31 0 1 30 (.move t10) ∧
  R1 c10_31 1 2 31 (.call ⟨.value (.func 23), #[t30], #[28]⟩) ∧
  R1 c10_31 2 3 11 (.assign t31) ∧
  RE c10_31 3 ∧
  Reg C c10_33 ∧
  R1 c10_33 0 1 32 (.move t11) ∧
  R1 c10_33 1 2 33 (.binOp .neq 29 t32 (.const (.int .i64 0)) 29) ∧
  RE c10_33 2 ∧
  Reg C c10_36 ∧
  R1 c10_36 0 1 34 (.move t11) ∧
  R1 c10_36 1 2 6 (.assign (.const (.slice none 0 0))) ∧
  R1 c10_36 2 3 7 (.assign t34) ∧
  RE c10_36 3 ∧
  Seq C c10_35 c10_36 .ret ∧
  Cond C c10_34 t33 c10_35 .skip ∧
  Seq C c10_32 c10_33 c10_34 ∧
  Seq C c10_30 c10_31 c10_32 ∧
  Seq C c10_28 c10_29 c10_30 ∧
  Blk C c10_27 1 c10_28 ∧
  Reg C c10_37 ∧
  R1 c10_37 0 1 35 (.binOp .add 3 t26 (.const (.int .i64 1)) 3) ∧
  R1 c10_37 1 2 26 (.move t35) ∧
  RE c10_37 2 ∧
  Seq C c10_26 c10_27 c10_37 ∧
  Seq C c10_24 c10_25 c10_26 ∧
  Seq C c10_22 c10_23 c10_24 ∧
  Lp C c10_21 c10_22 ∧
  Blk C c10_20 0 c10_21 ∧
  Seq C c10_18 c10_19 c10_20 ∧
  Draw C c10_39 ∧
  D1 c10_39 0 1 36 (.fieldAddr 25 t4 0) ∧
  D1 c10_39 1 2 37 (.load 22 t36) ∧
  D1 c10_39 2 3 38 (.move t0) ∧
  D1 c10_39 3 4 39 (.load 25 t4) ∧
  D1 c10_39 4 5 40 (.move t2) ∧
  D1 c10_39 5 6 41 (.indexAddr 26 t40 (.const (.int .i64 0))) ∧
  D1 c10_39 6 7 42 (.load 28 t41) ∧
  D1 c10_39 7 8 43 (.call ⟨.builtin .len, #[t42], #[28]⟩) ∧
  D1 c10_39 8 9 44 (.buildSlice 23 1 #[(0, t43)]) ∧
  D1 c10_39 9 10 45 (.call ⟨.value (.func 25), #[t38, t39, t44], #[3, 25, 23]⟩) ∧
  D1 c10_39 10 11 46 (.move t2) ∧
  D1 c10_39 11 12 47 (.call ⟨.value (.func 24), #[t37, t45, t46], #[22, 23, 26]⟩) ∧
  D1 c10_39 12 13 48 (.extract t47 0) ∧
  D1 c10_39 13 14 49 (.extract t47 1) ∧
  D1 c10_39 14 15 6 (.assign t48) ∧
  D1 c10_39 15 16 7 (.assign t49) ∧
  DE c10_39 16 ∧
  Seq C c10_38 c10_39 .ret ∧
  Seq C c10_17 c10_18 c10_38 ∧
  Seq C c10_11 c10_12 c10_17 ∧
  Seq C c10_3 c10_4 c10_11 ∧
  Seq C c10_1 c10_2 c10_3 :=
  ⟨reg_mk rfl, row1 rfl, row1 rfl, row1 rfl, rowE rfl, reg_mk rfl, row1 rfl, row1 rfl, row1 rfl, row1 rfl, rowE rfl, reg_mk rfl, row1 rfl, row1 rfl, rowE rfl, reg_mk rfl, row1 rfl, row1 rfl, row1 rfl, rowE rfl, seq_mk rfl, cond_mk rfl, seq_mk rfl, seq_mk rfl, reg_mk rfl, row1 rfl, row1 rfl, row1 rfl, row1 rfl, row1 rfl, row1 rfl, rowE rfl, reg_mk rfl, row1 rfl, row1 rfl, rowE rfl, seq_mk rfl, cond_mk rfl, seq_mk rfl, reg_mk rfl, row1 rfl, row1 rfl, row1 rfl, rowE rfl, reg_mk rfl, row1 rfl, rowE rfl, cond_mk rfl, reg_mk rfl, row1 rfl, row1 rfl, row1 rfl, rowE rfl, reg_mk rfl, row1 rfl, row1 rfl, row1 rfl, rowE rfl, reg_mk rfl, row1 rfl, row1 rfl, rowE rfl, reg_mk rfl, row1 rfl, row1 rfl, row1 rfl, rowE rfl, seq_mk rfl, cond_mk rfl, seq_mk rfl, seq_mk rfl, seq_mk rfl, blk_mk rfl, reg_mk rfl, row1 rfl, row1 rfl, rowE rfl, seq_mk rfl, seq_mk rfl, seq_mk rfl, lp_mk rfl, blk_mk rfl, seq_mk rfl, draw_mk rfl, dow1 rfl, dow1 rfl, dow1 rfl, dow1 rfl, dow1 rfl, dow1 rfl, dow1 rfl, dow1 rfl, dow1 rfl, dow1 rfl, dow1 rfl, dow1 rfl, dow1 rfl, dow1 rfl, dow1 rfl, dow1 rfl, dowE rfl, seq_mk rfl, seq_mk rfl, seq_mk rfl, seq_mk rfl, seq_mk rfl⟩
theorem body10 : Try.f10.body = some c10_1 := rfl
/-! fluxion/infer.Grows -/
noncomputable def c20_1 : Code := (Try.f20.body).getD .skip
noncomputable def c20_2 : Code := kid c20_1 0
noncomputable def c20_3 : Code := kid c20_1 1
noncomputable def c20_4 : Code := kid c20_3 0
noncomputable def c20_5 : Code := kid c20_3 1
noncomputable def c20_6 : Code := kid c20_5 0
noncomputable def c20_7 : Code := kid c20_5 1
noncomputable def c20_8 : Code := kid c20_7 0
noncomputable def c20_9 : Code := kid c20_8 0
noncomputable def c20_10 : Code := kid c20_8 1
noncomputable def c20_11 : Code := kid c20_10 0
noncomputable def c20_12 : Code := kid c20_11 0
noncomputable def c20_13 : Code := kid c20_12 0
noncomputable def c20_14 : Code := kid c20_12 1
noncomputable def c20_15 : Code := kid c20_14 0
noncomputable def c20_16 : Code := kid c20_14 1
noncomputable def c20_17 : Code := kid c20_16 0
noncomputable def c20_18 : Code := kid c20_17 0
noncomputable def c20_19 : Code := kid c20_18 0
noncomputable def c20_20 : Code := kid c20_18 1
noncomputable def c20_21 : Code := kid c20_16 1
noncomputable def c20_22 : Code := kid c20_7 1
noncomputable def c20_23 : Code := kid c20_22 0
@[go_sem] theorem w20 : Reg C c20_2 ∧
  R1 c20_2 0 1 4 (.box 25 t1) ∧
  R1 c20_2 1 2 6 (.assign (.const (.bool false))) ∧
  RE c20_2 2 ∧
  Reg C c20_4 ∧
  R1 c20_4 0 1 13 (.move t0) ∧
  R1 c20_4 1 2 14 (.load 25 t4) ∧
  R1 c20_4 2 3 15 (.move t2) ∧
  R1 c20_4 3 4 16 (.call ⟨.value (.func 10), #[t13, t14, t15], #[3, 25, 26]⟩) ∧
  R1 c20_4 4 5 12 (.move t16) ∧
  R1 c20_4 5 6 17 (.extract t12 0) ∧
  R1 c20_4 6 7 18 (.extract t12 1) ∧
  R1 c20_4 7 8 7 (.assign t17) ∧
  R1 c20_4 8 9 8 (.assign t18) ∧
  RE c20_4 9 ∧
  Reg C c20_6 ∧
  R1 c20_6 0 1 9 (.assign (.const (.int .i64 0))) ∧
  RE c20_6 1 ∧
  Reg C c20_9 ∧
  R1 c20_9 0 1 19 (.move t2) ∧
  R1 c20_9 1 2 20 (.call ⟨.builtin .len, #[t19], #[26]⟩) ∧
  R1 c20_9 2 3 21 (.move (.const (.int .i64 0))) ∧
  RE c20_9 3 ∧
  Reg C c20_13 ∧
  R1 c20_13 0 1 22 (.binOp .lss 3 t21 t20 3) ∧
  RE c20_13 1 ∧
  Cond C c20_15 t22 .skip (.exit 0) ∧
  Reg C c20_19 ∧
  R1 c20_19 0 1 23 (.indexAddr 26 t19 t21) ∧
  R1 c20_19 1 2 24 (.load 28 t23) ∧
  R1 c20_19 2 3 11 (.assign t24) ∧
  RE c20_19 3 ∧
  Reg C c20_20 ∧
  R1 c20_20 0 1 25 (.move t9) ∧
  R1 c20_20 1 2 26 (.move t11) ∧
  R1 c20_20 2 3 27 (.call ⟨.value (.func 29), #[t26], #[28]⟩) ∧
  R1 c20_20 3 4 28 (.binOp .add 3 t25 t27 3) ∧
  R1 c20_20 4 5 9 (.assign t28) ∧
  RE c20_20 5 ∧
  Seq C c20_18 c20_19 c20_20 ∧
  Blk C c20_17 1 c20_18 ∧
  Reg C c20_21 ∧
  R1 c20_21 0 1 29 (.binOp .add 3 t21 (.const (.int .i64 1)) 3) ∧
  R1 c20_21 1 2 21 (.move t29) ∧
  RE c20_21 2 ∧
  Seq C c20_16 c20_17 c20_21 ∧
  Seq C c20_14 c20_15 c20_16 ∧
  Seq C c20_12 c20_13 c20_14 ∧
  Lp C c20_11 c20_12 ∧
  Blk C c20_10 0 c20_11 ∧
  Seq C c20_8 c20_9 c20_10 ∧
  Reg C c20_23 ∧
  R1 c20_23 0 1 30 (.move t8) ∧
  R1 c20_23 1 2 31 (.binOp .eql 29 t30 (.const (.int .i64 0)) 29) ∧
  R1 c20_23 2 3 32 (.move t31) ∧
  RG c20_23 3 4 (some 33) (.move t7) 32 true ∧
  RG c20_23 4 5 (some 34) (.call ⟨.value (.func 29), #[t33], #[28]⟩) 32 true ∧
  RG c20_23 5 6 (some 35) (.move t9) 32 true ∧
  RG c20_23 6 7 (some 36) (.binOp .gtr 3 t34 t35 3) 32 true ∧
  R1 c20_23 7 8 37 (.pick t32 t36 (.const (.bool false))) ∧
  R1 c20_23 8 9 6 (.assign t37) ∧
  RE c20_23 9 ∧
  Seq C c20_22 c20_23 .ret ∧
  Seq C c20_7 c20_8 c20_22 ∧
  Seq C c20_5 c20_6 c20_7 ∧
  Seq C c20_3 c20_4 c20_5 ∧
  Seq C c20_1 c20_2 c20_3 :=
  ⟨reg_mk rfl, row1 rfl, row1 rfl, rowE rfl, reg_mk rfl, row1 rfl, row1 rfl, row1 rfl, row1 rfl, row1 rfl, row1 rfl, row1 rfl, row1 rfl, row1 rfl, rowE rfl, reg_mk rfl, row1 rfl, rowE rfl, reg_mk rfl, row1 rfl, row1 rfl, row1 rfl, rowE rfl, reg_mk rfl, row1 rfl, rowE rfl, cond_mk rfl, reg_mk rfl, row1 rfl, row1 rfl, row1 rfl, rowE rfl, reg_mk rfl, row1 rfl, row1 rfl, row1 rfl, row1 rfl, row1 rfl, rowE rfl, seq_mk rfl, blk_mk rfl, reg_mk rfl, row1 rfl, row1 rfl, rowE rfl, seq_mk rfl, seq_mk rfl, seq_mk rfl, lp_mk rfl, blk_mk rfl, seq_mk rfl, reg_mk rfl, row1 rfl, row1 rfl, row1 rfl, rowG rfl rfl, rowG rfl rfl, rowG rfl rfl, rowG rfl rfl, row1 rfl, row1 rfl, rowE rfl, seq_mk rfl, seq_mk rfl, seq_mk rfl, seq_mk rfl, seq_mk rfl⟩
theorem body20 : Try.f20.body = some c20_1 := rfl
end Go.Proofs.Ytlomgfdepllanaa
end

section
set_option maxRecDepth 100000
namespace Go.Proofs.Ytlomgfdepllanaa
open Go Go.Bv
/-! fluxion/fluxionlaw12.node -/
noncomputable def c21_1 : Code := (Try.f21.body).getD .skip
noncomputable def c21_2 : Code := kid c21_1 0
noncomputable def c21_3 : Code := kid c21_1 1
noncomputable def c21_4 : Code := kid c21_3 0
@[go_sem] theorem w21 : Reg C c21_2 ∧
  R1 c21_2 0 1 6 (.alloc 25) ∧
  RE c21_2 1 ∧
  Reg C c21_4 ∧
  R1 c21_4 0 1 7 (.move t0) ∧
  R1 c21_4 1 2 8 (.move t1) ∧
  R1 c21_4 2 3 9 (.makeSlice 23 t8 t8) ∧
  R1 c21_4 3 4 10 (.move t2) ∧
  R1 c21_4 4 5 11 (.build 25 #[(0, t7), (1, t9), (2, t10)]) ∧
  R0 c21_4 5 6 (.store 25 t6 t11) ∧
  RE c21_4 6 ∧
  Seq C c21_3 c21_4 .ret ∧
  Seq C c21_1 c21_2 c21_3 :=
  ⟨reg_mk rfl, row1 rfl, rowE rfl, reg_mk rfl, row1 rfl, row1 rfl, row1 rfl, row1 rfl, row1 rfl, row0 rfl, rowE rfl, seq_mk rfl, seq_mk rfl⟩
theorem body21 : Try.f21.body = some c21_1 := rfl
/-! fluxion/fluxionlaw12.known -/
noncomputable def c9_1 : Code := (Try.f9.body).getD .skip
noncomputable def c9_2 : Code := kid c9_1 0
noncomputable def c9_3 : Code := kid c9_1 1
noncomputable def c9_4 : Code := kid c9_3 0
noncomputable def c9_5 : Code := kid c9_3 1
noncomputable def c9_6 : Code := kid c9_5 0
noncomputable def c9_7 : Code := kid c9_5 1
noncomputable def c9_8 : Code := kid c9_7 0
noncomputable def c9_9 : Code := kid c9_7 1
noncomputable def c9_10 : Code := kid c9_9 0
noncomputable def c9_11 : Code := kid c9_9 1
noncomputable def c9_12 : Code := kid c9_11 0
noncomputable def c9_13 : Code := kid c9_11 1
noncomputable def c9_14 : Code := kid c9_13 0
noncomputable def c9_15 : Code := kid c9_13 1
noncomputable def c9_16 : Code := kid c9_15 0
noncomputable def c9_17 : Code := kid c9_15 1
noncomputable def c9_18 : Code := kid c9_17 0
@[go_sem] theorem w9 : Reg C c9_2 ∧
  R1 c9_2 0 1 0 (.assign (.const (.bool false))) ∧
  RE c9_2 1 ∧
  Reg C c9_4 ∧
  R1 c9_4 0 1 16 (.call ⟨.value (.func 21), #[.const (.int .i64 10), .const (.int .i64 2), .const (.slice none 0 0)], #[22, 3, 23]⟩) ∧
  R1 c9_4 1 2 17 (.buildSlice 28 2 #[(0, .const (.int .i64 2)), (1, .const (.int .i64 3))]) ∧
  R1 c9_4 2 3 18 (.buildSlice 28 2 #[(0, .const (.int .i64 3)), (1, .const (.int .i64 4))]) ∧
  R1 c9_4 3 4 19 (.buildSlice 26 2 #[(0, t17), (1, t18)]) ∧
  R1 c9_4 4 5 20 (.call ⟨.value (.func 10), #[.const (.int .i64 3), t16, t19], #[3, 25, 26]⟩) ∧
  R1 c9_4 5 6 15 (.move t20) ∧
  R1 c9_4 6 7 21 (.extract t15 0) ∧
  R1 c9_4 7 8 22 (.extract t15 1) ∧
  R1 c9_4 8 9 1 (.assign t21) ∧
  R1 c9_4 9 10 2 (.assign t22) ∧
  RE c9_4 10 ∧
  Reg C c9_6 ∧
  R1 c9_6 0 1 24 (.call ⟨.value (.func 21), #[.const (.int .i64 10), .const (.int .i64 2), .const (.slice none 0 0)], #[22, 3, 23]⟩) ∧
  R1 c9_6 1 2 25 (.buildSlice 28 2 #[(0, .const (.int .i64 2)), (1, .const (.int .i64 3))]) ∧
  R1 c9_6 2 3 26 (.buildSlice 28 2 #[(0, .const (.int .i64 2)), (1, .const (.int .i64 3))]) ∧
  R1 c9_6 3 4 27 (.buildSlice 26 2 #[(0, t25), (1, t26)]) ∧
  R1 c9_6 4 5 28 (.call ⟨.value (.func 10), #[.const (.int .i64 3), t24, t27], #[3, 25, 26]⟩) ∧
  R1 c9_6 5 6 23 (.move t28) ∧
  R1 c9_6 6 7 29 (.extract t23 0) ∧
  R1 c9_6 7 8 30 (.extract t23 1) ∧
  R1 c9_6 8 9 3 (.assign t29) ∧
  R1 c9_6 9 10 4 (.assign t30) ∧
  RE c9_6 10 ∧
  Reg C c9_8 ∧
  R1 c9_8 0 1 32 (.call ⟨.value (.func 21), #[.const (.int .i64 19), .const (.int .i64 3), .const (.slice none 0 0)], #[22, 3, 23]⟩) ∧
  R1 c9_8 1 2 33 (.buildSlice 28 2 #[(0, .const (.int .i64 2)), (1, .const (.int .i64 3))]) ∧
  R1 c9_8 2 3 34 (.buildSlice 28 2 #[(0, .const (.int .i64 3)), (1, .const (.int .i64 4))]) ∧
  R1 c9_8 3 4 35 (.buildSlice 28 1 #[(0, .const (.int .i64 4))]) ∧
  R1 c9_8 4 5 36 (.buildSlice 26 3 #[(0, t33), (1, t34), (2, t35)]) ∧
  R1 c9_8 5 6 37 (.call ⟨.value (.func 10), #[.const (.int .i64 2), t32, t36], #[3, 25, 26]⟩) ∧
  R1 c9_8 6 7 31 (.move t37) ∧
  R1 c9_8 7 8 38 (.extract t31 0) ∧
  R1 c9_8 8 9 39 (.extract t31 1) ∧
  R1 c9_8 9 10 5 (.assign t38) ∧
  R1 c9_8 10 11 6 (.assign t39) ∧
  RE c9_8 11 ∧
  Reg C c9_10 ∧
  R1 c9_10 0 1 41 (.call ⟨.value (.func 21), #[.const (.int .i64 19), .const (.int .i64 3), .const (.slice none 0 0)], #[22, 3, 23]⟩) ∧
  R1 c9_10 1 2 42 (.buildSlice 28 2 #[(0, .const (.int .i64 2)), (1, .const (.int .i64 3))]) ∧
  R1 c9_10 2 3 43 (.buildSlice 28 2 #[(0, .const (.int .i64 3)), (1, .const (.int .i64 4))]) ∧
  R1 c9_10 3 4 44 (.buildSlice 28 1 #[(0, .const (.int .i64 3))]) ∧
  R1 c9_10 4 5 45 (.buildSlice 26 3 #[(0, t42), (1, t43), (2, t44)]) ∧
  R1 c9_10 5 6 46 (.call ⟨.value (.func 10), #[.const (.int .i64 2), t41, t45], #[3, 25, 26]⟩) ∧
  R1 c9_10 6 7 40 (.move t46) ∧
  R1 c9_10 7 8 47 (.extract t40 0) ∧
  R1 c9_10 8 9 48 (.extract t40 1) ∧
  R1 c9_10 9 10 7 (.assign t47) ∧
  R1 c9_10 10 11 8 (.assign t48) ∧
  RE c9_10 11 ∧
  Reg C c9_12 ∧
  R1 c9_12 0 1 50 (.buildSlice 23 1 #[(0, .const (.int .i64 1))]) ∧
  R1 c9_12 1 2 51 (.call ⟨.value (.func 21), #[.const (.int .i64 14), .const (.int .i64 1), t50], #[22, 3, 23]⟩) ∧
  R1 c9_12 2 3 52 (.buildSlice 28 3 #[(0, .const (.int .i64 2)), (1, .const (.int .i64 3)), (2, .const (.int .i64 4))]) ∧
  R1 c9_12 3 4 53 (.buildSlice 26 1 #[(0, t52)]) ∧
  R1 c9_12 4 5 54 (.call ⟨.value (.func 10), #[.const (.int .i64 3), t51, t53], #[3, 25, 26]⟩) ∧
  R1 c9_12 5 6 49 (.move t54) ∧
  R1 c9_12 6 7 55 (.extract t49 0) ∧
  R1 c9_12 7 8 56 (.extract t49 1) ∧
  R1 c9_12 8 9 9 (.assign t55) ∧
  R1 c9_12 9 10 10 (.assign t56) ∧
  RE c9_12 10 ∧
  Reg C c9_14 ∧
  R1 c9_14 0 1 58 (.buildSlice 23 4 #[(0, .const (.int .i64 1)), (1, .const (.int .i64 0)), (2, .const (.int .i64 0)), (3, .const (.int .i64 2))]) ∧
  R1 c9_14 1 2 59 (.call ⟨.value (.func 21), #[.const (.int .i64 16), .const (.int .i64 1), t58], #[22, 3, 23]⟩) ∧
  R1 c9_14 2 3 60 (.buildSlice 28 2 #[(0, .const (.int .i64 2)), (1, .const (.int .i64 2))]) ∧
  R1 c9_14 3 4 61 (.buildSlice 26 1 #[(0, t60)]) ∧
  R1 c9_14 4 5 62 (.call ⟨.value (.func 10), #[.const (.int .i64 3), t59, t61], #[3, 25, 26]⟩) ∧
  R1 c9_14 5 6 57 (.move t62) ∧
  R1 c9_14 6 7 63 (.extract t57 0) ∧
  R1 c9_14 7 8 64 (.extract t57 1) ∧
  R1 c9_14 8 9 11 (.assign t63) ∧
  R1 c9_14 9 10 12 (.assign t64) ∧
  RE c9_14 10 ∧
  Reg C c9_16 ∧
  R1 c9_16 0 1 66 (.buildSlice 23 1 #[(0, .const (.int .i64 0))]) ∧
  R1 c9_16 1 2 67 (.call ⟨.value (.func 21), #[.const (.int .i64 17), .const (.int .i64 2), t66], #[22, 3, 23]⟩) ∧
  R1 c9_16 2 3 68 (.buildSlice 28 2 #[(0, .const (.int .i64 2)), (1, .const (.int .i64 3))]) ∧
  R1 c9_16 3 4 69 (.buildSlice 28 2 #[(0, .const (.int .i64 5)), (1, .const (.int .i64 3))]) ∧
  R1 c9_16 4 5 70 (.buildSlice 26 2 #[(0, t68), (1, t69)]) ∧
  R1 c9_16 5 6 71 (.call ⟨.value (.func 10), #[.const (.int .i64 3), t67, t70], #[3, 25, 26]⟩) ∧
  R1 c9_16 6 7 65 (.move t71) ∧
  R1 c9_16 7 8 72 (.extract t65 0) ∧
  R1 c9_16 8 9 73 (.extract t65 1) ∧
  R1 c9_16 9 10 13 (.assign t72) ∧
  R1 c9_16 10 11 14 (.assign t73) ∧
  RE c9_16 11 ∧
  Reg C c9_18 ∧
  R1 c9_18 0 1 74 (.move t2) ∧
  R1 c9_18 1 2 75 (.binOp .eql 29 t74 (.const (.int .i64 0)) 29) ∧
  R1 c9_18 2 3 76 (.move t75) ∧
  RG c9_18 3 4 (some 77) (.move t1) 76 true ∧
  RG c9_18 4 5 (some 78) (.buildSlice 23 2 #[(0, .const (.int .i64 2)), (1, .const (.int .i64 4))]) 76 true ∧
  RG c9_18 5 6 (some 79) (.call ⟨.value (.func 13), #[t77, t78], #[23, 23]⟩) 76 true ∧
  R1 c9_18 6 7 80 (.pick t76 t79 (.const (.bool false))) ∧
  R1 c9_18 7 8 81 (.move t80) ∧
  RG c9_18 8 9 (some 82) (.move t4) 81 true ∧
  RG c9_18 9 10 (some 83) (.binOp .eql 29 t82 (.const (.int .i64 13)) 29) 81 true ∧
  R1 c9_18 10 11 84 (.pick t81 t83 (.const (.bool false))) ∧
  R1 c9_18 11 12 85 (.move t84) ∧
  RG c9_18 12 13 (some 86) (.move t6) 85 true ∧
  RG c9_18 13 14 (some 87) (.binOp .eql 29 t86 (.const (.int .i64 0)) 29) 85 true ∧
  R1 c9_18 14 15 88 (.pick t85 t87 (.const (.bool false))) ∧
  R1 c9_18 15 16 89 (.move t88) ∧
  RG c9_18 16 17 (some 90) (.move t5) 89 true ∧
  RG c9_18 17 18 (some 91) (.buildSlice 23 2 #[(0, .const (.int .i64 2)), (1, .const (.int .i64 4))]) 89 true ∧
  RG c9_18 18 19 (some 92) (.call ⟨.value (.func 13), #[t90, t91], #[23, 23]⟩) 89 true ∧
  R1 c9_18 19 20 93 (.pick t89 t92 (.const (.bool false))) ∧
  R1 c9_18 20 21 94 (.move t93) ∧
  RG c9_18 21 22 (some 95) (.move t8) 94 true ∧
  RG c9_18 22 23 (some 96) (.binOp .eql 29 t95 (.const (.int .i64 13)) 29) 94 true ∧
  R1 c9_18 23 24 97 (.pick t94 t96 (.const (.bool false))) ∧
  R1 c9_18 24 25 98 (.move t97) ∧
  RG c9_18 25 26 (some 99) (.move t10) 98 true ∧
  RG c9_18 26 27 (some 100) (.binOp .eql 29 t99 (.const (.int .i64 0)) 29) 98 true ∧
  R1 c9_18 27 28 101 (.pick t98 t100 (.const (.bool false))) ∧
  R1 c9_18 28 29 102 (.move t101) ∧
  RG c9_18 29 30 (some 103) (.move t9) 102 true ∧
  RG c9_18 30 31 (some 104) (.buildSlice 23 2 #[(0, .const (.int .i64 2)), (1, .const (.int .i64 4))]) 102 true ∧
  RG c9_18 31 32 (some 105) (.call ⟨.value (.func 13), #[t103, t104], #[23, 23]⟩) 102 true ∧
  R1 c9_18 32 33 106 (.pick t102 t105 (.const (.bool false))) ∧
  R1 c9_18 33 34 107 (.move t106) ∧
  RG c9_18 34 35 (some 108) (.move t12) 107 true ∧
  RG c9_18 35 36 (some 109) (.binOp .eql 29 t108 (.const (.int .i64 0)) 29) 107 true ∧
  R1 c9_18 36 37 110 (.pick t107 t109 (.const (.bool false))) ∧
  R1 c9_18 37 38 111 (.move t110) ∧
  RG c9_18 38 39 (some 112) (.move t11) 111 true ∧
  RG c9_18 39 40 (some 113) (.buildSlice 23 2 #[(0, .const (.int .i64 3)), (1, .const (.int .i64 4))]) 111 true ∧
  RG c9_18 40 41 (some 114) (.call ⟨.value (.func 13), #[t112, t113], #[23, 23]⟩) 111 true ∧
  R1 c9_18 41 42 115 (.pick t111 t114 (.const (.bool false))) ∧
  R1 c9_18 42 43 116 (.move t115) ∧
  RG c9_18 43 44 (some 117) (.move t14) 116 true ∧
  RG c9_18 44 45 (some 118) (.binOp .eql 29 t117 (.const (.int .i64 0)) 29) 116 true ∧
  R1 c9_18 45 46 119 (.pick t116 t118 (.const (.bool false))) ∧
  R1 c9_18 46 47 120 (.move t119) ∧
  RG c9_18 47 48 (some 121) (.move t13) 120 true ∧
  RG c9_18 48 49 (some 122) (.buildSlice 23 2 #[(0, .const (.int .i64 7)), (1, .const (.int .i64 3))]) 120 true ∧
  RG c9_18 49 50 (some 123) (.call ⟨.value (.func 13), #[t121, t122], #[23, 23]⟩) 120 true ∧
  R1 c9_18 50 51 124 (.pick t120 t123 (.const (.bool false))) ∧
  R1 c9_18 51 52 0 (.assign t124) ∧
  RE c9_18 52 ∧
  Seq C c9_17 c9_18 .ret ∧
  Seq C c9_15 c9_16 c9_17 ∧
  Seq C c9_13 c9_14 c9_15 ∧
  Seq C c9_11 c9_12 c9_13 ∧
  Seq C c9_9 c9_10 c9_11 ∧
  Seq C c9_7 c9_8 c9_9 ∧
  Seq C c9_5 c9_6 c9_7 ∧
  Seq C c9_3 c9_4 c9_5 ∧
  Seq C c9_1 c9_2 c9_3 :=
  ⟨reg_mk rfl, row1 rfl, rowE rfl, reg_mk rfl, row1 rfl, row1 rfl, row1 rfl, row1 rfl, row1 rfl, row1 rfl, row1 rfl, row1 rfl, row1 rfl, row1 rfl, rowE rfl, reg_mk rfl, row1 rfl, row1 rfl, row1 rfl, row1 rfl, row1 rfl, row1 rfl, row1 rfl, row1 rfl, row1 rfl, row1 rfl, rowE rfl, reg_mk rfl, row1 rfl, row1 rfl, row1 rfl, row1 rfl, row1 rfl, row1 rfl, row1 rfl, row1 rfl, row1 rfl, row1 rfl, row1 rfl, rowE rfl, reg_mk rfl, row1 rfl, row1 rfl, row1 rfl, row1 rfl, row1 rfl, row1 rfl, row1 rfl, row1 rfl, row1 rfl, row1 rfl, row1 rfl, rowE rfl, reg_mk rfl, row1 rfl, row1 rfl, row1 rfl, row1 rfl, row1 rfl, row1 rfl, row1 rfl, row1 rfl, row1 rfl, row1 rfl, rowE rfl, reg_mk rfl, row1 rfl, row1 rfl, row1 rfl, row1 rfl, row1 rfl, row1 rfl, row1 rfl, row1 rfl, row1 rfl, row1 rfl, rowE rfl, reg_mk rfl, row1 rfl, row1 rfl, row1 rfl, row1 rfl, row1 rfl, row1 rfl, row1 rfl, row1 rfl, row1 rfl, row1 rfl, row1 rfl, rowE rfl, reg_mk rfl, row1 rfl, row1 rfl, row1 rfl, rowG rfl rfl, rowG rfl rfl, rowG rfl rfl, row1 rfl, row1 rfl, rowG rfl rfl, rowG rfl rfl, row1 rfl, row1 rfl, rowG rfl rfl, rowG rfl rfl, row1 rfl, row1 rfl, rowG rfl rfl, rowG rfl rfl, rowG rfl rfl, row1 rfl, row1 rfl, rowG rfl rfl, rowG rfl rfl, row1 rfl, row1 rfl, rowG rfl rfl, rowG rfl rfl, row1 rfl, row1 rfl, rowG rfl rfl, rowG rfl rfl, rowG rfl rfl, row1 rfl, row1 rfl, rowG rfl rfl, rowG rfl rfl, row1 rfl, row1 rfl, rowG rfl rfl, rowG rfl rfl, rowG rfl rfl, row1 rfl, row1 rfl, rowG rfl rfl, rowG rfl rfl, row1 rfl, row1 rfl, rowG rfl rfl, rowG rfl rfl, rowG rfl rfl, row1 rfl, row1 rfl, rowE rfl, seq_mk rfl, seq_mk rfl, seq_mk rfl, seq_mk rfl, seq_mk rfl, seq_mk rfl, seq_mk rfl, seq_mk rfl, seq_mk rfl⟩
theorem body9 : Try.f9.body = some c9_1 := rfl
/-! fluxion/fluxionlaw12.InferTells -/
noncomputable def c3_1 : Code := (Try.f3.body).getD .skip
noncomputable def c3_2 : Code := kid c3_1 0
noncomputable def c3_3 : Code := kid c3_1 1
noncomputable def c3_4 : Code := kid c3_3 0
noncomputable def c3_5 : Code := kid c3_4 0
noncomputable def c3_6 : Code := kid c3_4 1
noncomputable def c3_7 : Code := kid c3_6 0
noncomputable def c3_8 : Code := kid c3_7 0
noncomputable def c3_9 : Code := kid c3_3 1
noncomputable def c3_10 : Code := kid c3_9 0
noncomputable def c3_11 : Code := kid c3_9 1
noncomputable def c3_12 : Code := kid c3_11 0
noncomputable def c3_13 : Code := kid c3_11 1
noncomputable def c3_14 : Code := kid c3_13 0
@[go_sem] theorem w3 : Reg C c3_2 ∧
  R1 c3_2 0 1 4 (.box 25 t1) ∧
  R1 c3_2 1 2 6 (.assign (.const (.bool false))) ∧
  RE c3_2 2 ∧
  Reg C c3_5 ∧
  R1 c3_5 0 1 11 (.move t2) ∧
  R1 c3_5 1 2 12 (.call ⟨.builtin .len, #[t11], #[26]⟩) ∧
  R1 c3_5 2 3 13 (.binOp .gtr 3 t12 (.const (.int .i64 20)) 3) ∧
  RE c3_5 3 ∧
  Reg C c3_8 ∧
  R1 c3_8 0 1 14 (.call ⟨.value (.func 9), #[], #[]⟩) ∧
  R1 c3_8 1 2 6 (.assign t14) ∧
  RE c3_8 2 ∧
  Seq C c3_7 c3_8 .ret ∧
  Cond C c3_6 t13 c3_7 .skip ∧
  Seq C c3_4 c3_5 c3_6 ∧
  Reg C c3_10 ∧
  R1 c3_10 0 1 16 (.move t0) ∧
  R1 c3_10 1 2 17 (.load 25 t4) ∧
  R1 c3_10 2 3 18 (.move t2) ∧
  R1 c3_10 3 4 19 (.call ⟨.value (.func 10), #[t16, t17, t18], #[3, 25, 26]⟩) ∧
  R1 c3_10 4 5 15 (.move t19) ∧
  R1 c3_10 5 6 20 (.extract t15 0) ∧
  R1 c3_10 6 7 21 (.extract t15 1) ∧
  R1 c3_10 7 8 7 (.assign t20) ∧
  R1 c3_10 8 9 8 (.assign t21) ∧
  RE c3_10 9 ∧
  Draw C c3_12 ∧
  D1 c3_12 0 1 23 (.move t0) ∧
  D1 c3_12 1 2 24 (.load 25 t4) ∧
  D1 c3_12 2 3 25 (.move t2) ∧
  D1 c3_12 3 4 26 (.call ⟨.value (.func 12), #[t25], #[26]⟩) ∧
  D1 c3_12 4 5 27 (.call ⟨.value (.func 11), #[t23, t24, t26], #[3, 25, 34]⟩) ∧
  D1 c3_12 5 6 22 (.move t27) ∧
  D1 c3_12 6 7 28 (.extract t22 0) ∧
  D1 c3_12 7 8 29 (.extract t22 1) ∧
  D1 c3_12 8 9 9 (.assign t28) ∧
  D1 c3_12 9 10 10 (.assign t29) ∧
  DE c3_12 10 ∧
  Reg C c3_14 ∧
  R1 c3_14 0 1 30 (.move t8) ∧
  R1 c3_14 1 2 31 (.move t10) ∧
  R1 c3_14 2 3 32 (.binOp .eql 3 t30 t31 3) ∧
  R1 c3_14 3 4 33 (.move t32) ∧
  RG c3_14 4 5 (some 34) (.move t7) 33 true ∧
  RG c3_14 5 6 (some 35) (.move t9) 33 true ∧
  RG c3_14 6 7 (some 36) (.call ⟨.value (.func 13), #[t34, t35], #[23, 23]⟩) 33 true ∧
  R1 c3_14 7 8 37 (.pick t33 t36 (.const (.bool false))) ∧
  R1 c3_14 8 9 38 (.move t37) ∧
  RG c3_14 9 10 (some 39) (.call ⟨.value (.func 9), #[], #[]⟩) 38 true ∧
  R1 c3_14 10 11 40 (.pick t38 t39 (.const (.bool false))) ∧
  R1 c3_14 11 12 6 (.assign t40) ∧
  RE c3_14 12 ∧
  Seq C c3_13 c3_14 .ret ∧
  Seq C c3_11 c3_12 c3_13 ∧
  Seq C c3_9 c3_10 c3_11 ∧
  Seq C c3_3 c3_4 c3_9 ∧
  Seq C c3_1 c3_2 c3_3 :=
  ⟨reg_mk rfl, row1 rfl, row1 rfl, rowE rfl, reg_mk rfl, row1 rfl, row1 rfl, row1 rfl, rowE rfl, reg_mk rfl, row1 rfl, row1 rfl, rowE rfl, seq_mk rfl, cond_mk rfl, seq_mk rfl, reg_mk rfl, row1 rfl, row1 rfl, row1 rfl, row1 rfl, row1 rfl, row1 rfl, row1 rfl, row1 rfl, row1 rfl, rowE rfl, draw_mk rfl, dow1 rfl, dow1 rfl, dow1 rfl, dow1 rfl, dow1 rfl, dow1 rfl, dow1 rfl, dow1 rfl, dow1 rfl, dow1 rfl, dowE rfl, reg_mk rfl, row1 rfl, row1 rfl, row1 rfl, row1 rfl, rowG rfl rfl, rowG rfl rfl, rowG rfl rfl, row1 rfl, row1 rfl, rowG rfl rfl, row1 rfl, row1 rfl, rowE rfl, seq_mk rfl, seq_mk rfl, seq_mk rfl, seq_mk rfl, seq_mk rfl⟩
theorem body3 : Try.f3.body = some c3_1 := rfl
/-! fluxion/fluxionlaw12.InferLater -/
noncomputable def c4_1 : Code := (Try.f4.body).getD .skip
noncomputable def c4_2 : Code := kid c4_1 0
noncomputable def c4_3 : Code := kid c4_1 1
noncomputable def c4_4 : Code := kid c4_3 0
noncomputable def c4_5 : Code := kid c4_4 0
noncomputable def c4_6 : Code := kid c4_4 1
noncomputable def c4_7 : Code := kid c4_6 0
noncomputable def c4_8 : Code := kid c4_7 0
noncomputable def c4_9 : Code := kid c4_3 1
noncomputable def c4_10 : Code := kid c4_9 0
noncomputable def c4_11 : Code := kid c4_9 1
noncomputable def c4_12 : Code := kid c4_11 0
noncomputable def c4_13 : Code := kid c4_12 0
noncomputable def c4_14 : Code := kid c4_12 1
noncomputable def c4_15 : Code := kid c4_14 0
noncomputable def c4_16 : Code := kid c4_15 0
noncomputable def c4_17 : Code := kid c4_11 1
noncomputable def c4_18 : Code := kid c4_17 0
noncomputable def c4_19 : Code := kid c4_17 1
noncomputable def c4_20 : Code := kid c4_19 0
noncomputable def c4_21 : Code := kid c4_20 0
noncomputable def c4_22 : Code := kid c4_20 1
noncomputable def c4_23 : Code := kid c4_22 0
noncomputable def c4_24 : Code := kid c4_23 0
noncomputable def c4_25 : Code := kid c4_19 1
noncomputable def c4_26 : Code := kid c4_25 0
noncomputable def c4_27 : Code := kid c4_26 0
noncomputable def c4_28 : Code := kid c4_26 1
noncomputable def c4_29 : Code := kid c4_28 0
noncomputable def c4_30 : Code := kid c4_29 0
noncomputable def c4_31 : Code := kid c4_25 1
noncomputable def c4_32 : Code := kid c4_31 0
noncomputable def c4_33 : Code := kid c4_31 1
noncomputable def c4_34 : Code := kid c4_33 0
@[go_sem] theorem w4 : Reg C c4_2 ∧
  R1 c4_2 0 1 5 (.box 25 t1) ∧
  R1 c4_2 1 2 8 (.assign (.const (.bool false))) ∧
  RE c4_2 2 ∧
  Reg C c4_5 ∧
  R1 c4_5 0 1 14 (.move t2) ∧
  R1 c4_5 1 2 15 (.call ⟨.builtin .len, #[t14], #[26]⟩) ∧
  R1 c4_5 2 3 16 (.binOp .gtr 3 t15 (.const (.int .i64 20)) 3) ∧
  R1 c4_5 3 4 17 (.move t16) ∧
  RG c4_5 4 5 (some 18) (.move t2) 17 false ∧
  RG c4_5 5 6 (some 19) (.call ⟨.builtin .len, #[t18], #[26]⟩) 17 false ∧
  RG c4_5 6 7 (some 20) (.binOp .eql 3 t19 (.const (.int .i64 0)) 3) 17 false ∧
  R1 c4_5 7 8 21 (.pick t17 (.const (.bool true)) t20) ∧
  R1 c4_5 8 9 22 (.move t21) ∧
  RG c4_5 9 10 (some 23) (.move t0) 22 false ∧
  RG c4_5 10 11 (some 24) (.load 25 t5) 22 false ∧
  RG c4_5 11 12 (some 25) (.call ⟨.value (.func 14), #[t23, t24], #[3, 25]⟩) 22 false ∧
  RG c4_5 12 13 (some 26) (.binOp .neq 3 t25 (.const (.int .i64 0)) 3) 22 false ∧
  R1 c4_5 13 14 27 (.pick t22 (.const (.bool true)) t26) ∧
  R1 c4_5 14 15 28 (.move t27) ∧
  RG c4_5 15 16 (some 29) (.move t3) 28 false ∧
  RG c4_5 16 17 (some 30) (.move t0) 28 false ∧
  RG c4_5 17 18 (some 31) (.binOp .lss 3 t29 t30 3) 28 false ∧
  R1 c4_5 18 19 32 (.pick t28 (.const (.bool true)) t31) ∧
  R1 c4_5 19 20 33 (.move t32) ∧
  RG c4_5 20 21 (some 34) (.move t3) 33 false ∧
  RG c4_5 21 22 (some 35) (.binOp .gtr 3 t34 (.const (.int .i64 3)) 3) 33 false ∧
  R1 c4_5 22 23 36 (.pick t33 (.const (.bool true)) t35) ∧
  R1 c4_5 23 24 37 (.move t36) ∧
  RG c4_5 24 25 (some 38) (.fieldAddr 25 t5 0) 37 false ∧
  RG c4_5 25 26 (some 39) (.load 22 t38) 37 false ∧
  RG c4_5 26 27 (some 40) (.move t3) 37 false ∧
  RG c4_5 27 28 (some 41) (.call ⟨.value (.func 15), #[t39, t40], #[22, 3]⟩) 37 false ∧
  RG c4_5 28 29 (some 42) (.unOp .not 4 t41) 37 false ∧
  R1 c4_5 29 30 43 (.pick t37 (.const (.bool true)) t42) ∧
  RE c4_5 30 ∧
  Reg C c4_8 ∧
  R1 c4_8 0 1 44 (.call ⟨.value (.func 9), #[], #[]⟩) ∧
  R1 c4_8 1 2 8 (.assign t44) ∧
  RE c4_8 2 ∧
  Seq C c4_7 c4_8 .ret ∧
  Cond C c4_6 t43 c4_7 .skip ∧
  Seq C c4_4 c4_5 c4_6 ∧
  Draw C c4_10 ∧
  D1 c4_10 0 1 45 (.fieldAddr 25 t5 0) ∧
  D1 c4_10 1 2 46 (.load 22 t45) ∧
  D1 c4_10 2 3 47 (.fieldAddr 25 t5 1) ∧
  D1 c4_10 3 4 48 (.load 23 t47) ∧
  D1 c4_10 4 5 49 (.move t0) ∧
  D1 c4_10 5 6 50 (.load 25 t5) ∧
  D1 c4_10 6 7 51 (.move t2) ∧
  D1 c4_10 7 8 52 (.indexAddr 26 t51 (.const (.int .i64 0))) ∧
  D1 c4_10 8 9 53 (.load 28 t52) ∧
  D1 c4_10 9 10 54 (.call ⟨.builtin .len, #[t53], #[28]⟩) ∧
  D1 c4_10 10 11 55 (.call ⟨.value (.func 16), #[t49, t50, t54], #[3, 25, 3]⟩) ∧
  D1 c4_10 11 12 56 (.build 25 #[(0, t46), (1, t48), (2, t55)]) ∧
  D1 c4_10 12 13 9 (.alloc 25) ∧
  D0 c4_10 13 14 (.store 25 t9 t56) ∧
  DE c4_10 14 ∧
  Reg C c4_13 ∧
  R1 c4_13 0 1 57 (.fieldAddr 25 t5 0) ∧
  R1 c4_13 1 2 58 (.load 22 t57) ∧
  R1 c4_13 2 3 59 (.binOp .eql 22 t58 (.const (.int .i64 11)) 22) ∧
  R1 c4_13 3 4 60 (.move t59) ∧
  RG c4_13 4 5 (some 61) (.fieldAddr 25 t5 2) 60 true ∧
  RG c4_13 5 6 (some 62) (.load 23 t61) 60 true ∧
  RG c4_13 6 7 (some 63) (.call ⟨.builtin .len, #[t62], #[23]⟩) 60 true ∧
  RG c4_13 7 8 (some 64) (.binOp .eql 3 t63 (.const (.int .i64 0)) 3) 60 true ∧
  R1 c4_13 8 9 65 (.pick t60 t64 (.const (.bool false))) ∧
  R1 c4_13 9 10 66 (.move t65) ∧
  RG c4_13 10 11 (some 67) (.move t0) 66 true ∧
  RG c4_13 11 12 (some 68) (.binOp .eql 3 t67 (.const (.int .i64 1)) 3) 66 true ∧
  R1 c4_13 12 13 69 (.pick t66 t68 (.const (.bool false))) ∧
  R1 c4_13 13 14 70 (.move t69) ∧
  RG c4_13 14 15 (some 71) (.move t2) 70 true ∧
  RG c4_13 15 16 (some 72) (.indexAddr 26 t71 (.const (.int .i64 0))) 70 true ∧
  RG c4_13 16 17 (some 73) (.load 28 t72) 70 true ∧
  RG c4_13 17 18 (some 74) (.call ⟨.builtin .len, #[t73], #[28]⟩) 70 true ∧
  RG c4_13 18 19 (some 75) (.binOp .gtr 3 t74 (.const (.int .i64 4)) 3) 70 true ∧
  R1 c4_13 19 20 76 (.pick t70 t75 (.const (.bool false))) ∧
  RE c4_13 20 ∧
  Reg C c4_16 ∧
  R1 c4_16 0 1 77 (.call ⟨.value (.func 9), #[], #[]⟩) ∧
  R1 c4_16 1 2 8 (.assign t77) ∧
  RE c4_16 2 ∧
  Seq C c4_15 c4_16 .ret ∧
  Cond C c4_14 t76 c4_15 .skip ∧
  Seq C c4_12 c4_13 c4_14 ∧
  Reg C c4_18 ∧
  R1 c4_18 0 1 79 (.move t0) ∧
  R1 c4_18 1 2 80 (.load 25 t5) ∧
  R1 c4_18 2 3 81 (.move t2) ∧
  R1 c4_18 3 4 82 (.call ⟨.value (.func 10), #[t79, t80, t81], #[3, 25, 26]⟩) ∧
  R1 c4_18 4 5 78 (.move t82) ∧
  R1 c4_18 5 6 83 (.extract t78 0) ∧
  R1 c4_18 6 7 84 (.extract t78 1) ∧
  R1 c4_18 7 8 10 (.assign t83) ∧
  R1 c4_18 8 9 11 (.assign t84) ∧
  RE c4_18 9 ∧
  Reg C c4_21 ∧
  R1 c4_21 0 1 85 (.move t11) ∧
  R1 c4_21 1 2 86 (.binOp .neq 29 t85 (.const (.int .i64 0)) 29) ∧
  RE c4_21 2 ∧
  Reg C c4_24 ∧
  R1 c4_24 0 1 87 (.call ⟨.value (.func 9), #[], #[]⟩) ∧
  R1 c4_24 1 2 8 (.assign t87) ∧
  RE c4_24 2 ∧
  Seq C c4_23 c4_24 .ret ∧
  Cond C c4_22 t86 c4_23 .skip ∧
  Seq C c4_20 c4_21 c4_22 ∧
  Reg C c4_27 ∧
  R1 c4_27 0 1 88 (.move t3) ∧
  R1 c4_27 1 2 89 (.binOp .lss 3 t88 (.const (.int .i64 3)) 3) ∧
  R1 c4_27 2 3 90 (.move t89) ∧
  RG c4_27 3 4 (some 91) (.fieldAddr 25 t9 2) 90 true ∧
  RG c4_27 4 5 (some 92) (.load 23 t91) 90 true ∧
  RG c4_27 5 6 (some 93) (.call ⟨.builtin .len, #[t92], #[23]⟩) 90 true ∧
  RG c4_27 6 7 (some 94) (.binOp .eql 3 t93 (.const (.int .i64 0)) 3) 90 true ∧
  R1 c4_27 7 8 95 (.pick t90 t94 (.const (.bool false))) ∧
  R1 c4_27 8 9 96 (.move t95) ∧
  RG c4_27 9 10 (some 97) (.move t3) 96 true ∧
  RG c4_27 10 11 (some 98) (.fieldAddr 25 t5 0) 96 true ∧
  RG c4_27 11 12 (some 99) (.load 22 t98) 96 true ∧
  RG c4_27 12 13 (some 100) (.call ⟨.value (.func 17), #[t97, t99], #[3, 22]⟩) 96 true ∧
  R1 c4_27 13 14 101 (.pick t96 t100 (.const (.bool false))) ∧
  RE c4_27 14 ∧
  Reg C c4_30 ∧
  R1 c4_30 0 1 102 (.call ⟨.value (.func 9), #[], #[]⟩) ∧
  R1 c4_30 1 2 8 (.assign t102) ∧
  RE c4_30 2 ∧
  Seq C c4_29 c4_30 .ret ∧
  Cond C c4_28 t101 c4_29 .skip ∧
  Seq C c4_26 c4_27 c4_28 ∧
  Reg C c4_32 ∧
  R1 c4_32 0 1 104 (.move t3) ∧
  R1 c4_32 1 2 105 (.load 25 t9) ∧
  R1 c4_32 2 3 106 (.move t2) ∧
  R1 c4_32 3 4 107 (.call ⟨.value (.func 10), #[t104, t105, t106], #[3, 25, 26]⟩) ∧
  R1 c4_32 4 5 103 (.move t107) ∧
  R1 c4_32 5 6 108 (.extract t103 0) ∧
  R1 c4_32 6 7 109 (.extract t103 1) ∧
  R1 c4_32 7 8 12 (.assign t108) ∧
  R1 c4_32 8 9 13 (.assign t109) ∧
  RE c4_32 9 ∧
  Reg C c4_34 ∧
  R1 c4_34 0 1 110 (.move t13) ∧
  R1 c4_34 1 2 111 (.binOp .eql 29 t110 (.const (.int .i64 0)) 29) ∧
  R1 c4_34 2 3 112 (.move t111) ∧
  RG c4_34 3 4 (some 113) (.move t10) 112 true ∧
  RG c4_34 4 5 (some 114) (.move t12) 112 true ∧
  RG c4_34 5 6 (some 115) (.call ⟨.value (.func 13), #[t113, t114], #[23, 23]⟩) 112 true ∧
  R1 c4_34 6 7 116 (.pick t112 t115 (.const (.bool false))) ∧
  R1 c4_34 7 8 117 (.move t116) ∧
  RG c4_34 8 9 (some 118) (.call ⟨.value (.func 9), #[], #[]⟩) 117 true ∧
  R1 c4_34 9 10 119 (.pick t117 t118 (.const (.bool false))) ∧
  R1 c4_34 10 11 8 (.assign t119) ∧
  RE c4_34 11 ∧
  Seq C c4_33 c4_34 .ret ∧
  Seq C c4_31 c4_32 c4_33 ∧
  Seq C c4_25 c4_26 c4_31 ∧
  Seq C c4_19 c4_20 c4_25 ∧
  Seq C c4_17 c4_18 c4_19 ∧
  Seq C c4_11 c4_12 c4_17 ∧
  Seq C c4_9 c4_10 c4_11 ∧
  Seq C c4_3 c4_4 c4_9 ∧
  Seq C c4_1 c4_2 c4_3 :=
  ⟨reg_mk rfl, row1 rfl, row1 rfl, rowE rfl, reg_mk rfl, row1 rfl, row1 rfl, row1 rfl, row1 rfl, rowG rfl rfl, rowG rfl rfl, rowG rfl rfl, row1 rfl, row1 rfl, rowG rfl rfl, rowG rfl rfl, rowG rfl rfl, rowG rfl rfl, row1 rfl, row1 rfl, rowG rfl rfl, rowG rfl rfl, rowG rfl rfl, row1 rfl, row1 rfl, rowG rfl rfl, rowG rfl rfl, row1 rfl, row1 rfl, rowG rfl rfl, rowG rfl rfl, rowG rfl rfl, rowG rfl rfl, rowG rfl rfl, row1 rfl, rowE rfl, reg_mk rfl, row1 rfl, row1 rfl, rowE rfl, seq_mk rfl, cond_mk rfl, seq_mk rfl, draw_mk rfl, dow1 rfl, dow1 rfl, dow1 rfl, dow1 rfl, dow1 rfl, dow1 rfl, dow1 rfl, dow1 rfl, dow1 rfl, dow1 rfl, dow1 rfl, dow1 rfl, dow1 rfl, dow0 rfl, dowE rfl, reg_mk rfl, row1 rfl, row1 rfl, row1 rfl, row1 rfl, rowG rfl rfl, rowG rfl rfl, rowG rfl rfl, rowG rfl rfl, row1 rfl, row1 rfl, rowG rfl rfl, rowG rfl rfl, row1 rfl, row1 rfl, rowG rfl rfl, rowG rfl rfl, rowG rfl rfl, rowG rfl rfl, rowG rfl rfl, row1 rfl, rowE rfl, reg_mk rfl, row1 rfl, row1 rfl, rowE rfl, seq_mk rfl, cond_mk rfl, seq_mk rfl, reg_mk rfl, row1 rfl, row1 rfl, row1 rfl, row1 rfl, row1 rfl, row1 rfl, row1 rfl, row1 rfl, row1 rfl, rowE rfl, reg_mk rfl, row1 rfl, row1 rfl, rowE rfl, reg_mk rfl, row1 rfl, row1 rfl, rowE rfl, seq_mk rfl, cond_mk rfl, seq_mk rfl, reg_mk rfl, row1 rfl, row1 rfl, row1 rfl, rowG rfl rfl, rowG rfl rfl, rowG rfl rfl, rowG rfl rfl, row1 rfl, row1 rfl, rowG rfl rfl, rowG rfl rfl, rowG rfl rfl, rowG rfl rfl, row1 rfl, rowE rfl, reg_mk rfl, row1 rfl, row1 rfl, rowE rfl, seq_mk rfl, cond_mk rfl, seq_mk rfl, reg_mk rfl, row1 rfl, row1 rfl, row1 rfl, row1 rfl, row1 rfl, row1 rfl, row1 rfl, row1 rfl, row1 rfl, rowE rfl, reg_mk rfl, row1 rfl, row1 rfl, row1 rfl, rowG rfl rfl, rowG rfl rfl, rowG rfl rfl, row1 rfl, row1 rfl, rowG rfl rfl, row1 rfl, row1 rfl, rowE rfl, seq_mk rfl, seq_mk rfl, seq_mk rfl, seq_mk rfl, seq_mk rfl, seq_mk rfl, seq_mk rfl, seq_mk rfl, seq_mk rfl⟩
theorem body4 : Try.f4.body = some c4_1 := rfl
/-! fluxion/fluxionlaw12.InferFew -/
noncomputable def c5_1 : Code := (Try.f5.body).getD .skip
noncomputable def c5_2 : Code := kid c5_1 0
noncomputable def c5_3 : Code := kid c5_1 1
noncomputable def c5_4 : Code := kid c5_3 0
noncomputable def c5_5 : Code := kid c5_4 0
noncomputable def c5_6 : Code := kid c5_4 1
noncomputable def c5_7 : Code := kid c5_6 0
noncomputable def c5_8 : Code := kid c5_7 0
noncomputable def c5_9 : Code := kid c5_3 1
noncomputable def c5_10 : Code := kid c5_9 0
noncomputable def c5_11 : Code := kid c5_9 1
noncomputable def c5_12 : Code := kid c5_11 0
noncomputable def c5_13 : Code := kid c5_12 0
noncomputable def c5_14 : Code := kid c5_12 1
noncomputable def c5_15 : Code := kid c5_14 0
noncomputable def c5_16 : Code := kid c5_15 0
noncomputable def c5_17 : Code := kid c5_11 1
noncomputable def c5_18 : Code := kid c5_17 0
noncomputable def c5_19 : Code := kid c5_18 0
noncomputable def c5_20 : Code := kid c5_18 1
noncomputable def c5_21 : Code := kid c5_20 0
noncomputable def c5_22 : Code := kid c5_21 0
noncomputable def c5_23 : Code := kid c5_17 1
noncomputable def c5_24 : Code := kid c5_23 0
noncomputable def c5_25 : Code := kid c5_24 0
noncomputable def c5_26 : Code := kid c5_24 1
noncomputable def c5_27 : Code := kid c5_26 0
noncomputable def c5_28 : Code := kid c5_27 0
noncomputable def c5_29 : Code := kid c5_28 0
noncomputable def c5_30 : Code := kid c5_29 0
noncomputable def c5_31 : Code := kid c5_29 1
noncomputable def c5_32 : Code := kid c5_28 1
noncomputable def c5_33 : Code := kid c5_32 0
noncomputable def c5_34 : Code := kid c5_33 0
noncomputable def c5_35 : Code := kid c5_34 0
noncomputable def c5_36 : Code := kid c5_34 1
noncomputable def c5_37 : Code := kid c5_36 0
noncomputable def c5_38 : Code := kid c5_36 1
noncomputable def c5_39 : Code := kid c5_38 0
noncomputable def c5_40 : Code := kid c5_39 0
noncomputable def c5_41 : Code := kid c5_32 1
noncomputable def c5_42 : Code := kid c5_23 1
noncomputable def c5_43 : Code := kid c5_42 0
@[go_sem] theorem w5 : Reg C c5_2 ∧
  R1 c5_2 0 1 4 (.box 25 t1) ∧
  R1 c5_2 1 2 6 (.assign (.const (.bool false))) ∧
  RE c5_2 2 ∧
  Reg C c5_5 ∧
  R1 c5_5 0 1 11 (.move t2) ∧
  R1 c5_5 1 2 12 (.call ⟨.builtin .len, #[t11], #[26]⟩) ∧
  R1 c5_5 2 3 13 (.binOp .gtr 3 t12 (.const (.int .i64 20)) 3) ∧
  RE c5_5 3 ∧
  Reg C c5_8 ∧
  R1 c5_8 0 1 14 (.call ⟨.value (.func 9), #[], #[]⟩) ∧
  R1 c5_8 1 2 6 (.assign t14) ∧
  RE c5_8 2 ∧
  Seq C c5_7 c5_8 .ret ∧
  Cond C c5_6 t13 c5_7 .skip ∧
  Seq C c5_4 c5_5 c5_6 ∧
  Reg C c5_10 ∧
  R1 c5_10 0 1 16 (.move t0) ∧
  R1 c5_10 1 2 17 (.load 25 t4) ∧
  R1 c5_10 2 3 18 (.move t2) ∧
  R1 c5_10 3 4 19 (.call ⟨.value (.func 10), #[t16, t17, t18], #[3, 25, 26]⟩) ∧
  R1 c5_10 4 5 15 (.move t19) ∧
  R1 c5_10 5 6 20 (.extract t15 0) ∧
  R1 c5_10 6 7 21 (.extract t15 1) ∧
  R1 c5_10 7 8 7 (.assign t20) ∧
  R1 c5_10 8 9 8 (.assign t21) ∧
  RE c5_10 9 ∧
  Reg C c5_13 ∧
  R1 c5_13 0 1 22 (.move t0) ∧
  R1 c5_13 1 2 23 (.load 25 t4) ∧
  R1 c5_13 2 3 24 (.call ⟨.value (.func 14), #[t22, t23], #[3, 25]⟩) ∧
  R1 c5_13 3 4 25 (.binOp .neq 3 t24 (.const (.int .i64 0)) 3) ∧
  RE c5_13 4 ∧
  Reg C c5_16 ∧
  R1 c5_16 0 1 26 (.move t8) ∧
  R1 c5_16 1 2 27 (.move t0) ∧
  R1 c5_16 2 3 28 (.load 25 t4) ∧
  R1 c5_16 3 4 29 (.call ⟨.value (.func 14), #[t27, t28], #[3, 25]⟩) ∧
  R1 c5_16 4 5 30 (.binOp .eql 3 t26 t29 3) ∧
  R1 c5_16 5 6 31 (.move t30) ∧
  RG c5_16 6 7 (some 32) (.call ⟨.value (.func 9), #[], #[]⟩) 31 true ∧
  R1 c5_16 7 8 33 (.pick t31 t32 (.const (.bool false))) ∧
  R1 c5_16 8 9 6 (.assign t33) ∧
  RE c5_16 9 ∧
  Seq C c5_15 c5_16 .ret ∧
  Cond C c5_14 t25 c5_15 .skip ∧
  Seq C c5_12 c5_13 c5_14 ∧
  Reg C c5_19 ∧
  R1 c5_19 0 1 34 (.move t2) ∧
  R1 c5_19 1 2 35 (.call ⟨.builtin .len, #[t34], #[26]⟩) ∧
  R1 c5_19 2 3 36 (.fieldAddr 25 t4 1) ∧
  R1 c5_19 3 4 37 (.load 23 t36) ∧
  R1 c5_19 4 5 38 (.call ⟨.builtin .len, #[t37], #[23]⟩) ∧
  R1 c5_19 5 6 39 (.binOp .neq 3 t35 t38 3) ∧
  RE c5_19 6 ∧
  Reg C c5_22 ∧
  R1 c5_22 0 1 40 (.move t8) ∧
  R1 c5_22 1 2 41 (.binOp .eql 29 t40 (.const (.int .i64 10)) 29) ∧
  R1 c5_22 2 3 42 (.move t41) ∧
  RG c5_22 3 4 (some 43) (.call ⟨.value (.func 9), #[], #[]⟩) 42 true ∧
  R1 c5_22 4 5 44 (.pick t42 t43 (.const (.bool false))) ∧
  R1 c5_22 5 6 6 (.assign t44) ∧
  RE c5_22 6 ∧
  Seq C c5_21 c5_22 .ret ∧
  Cond C c5_20 t39 c5_21 .skip ∧
  Seq C c5_18 c5_19 c5_20 ∧
  Reg C c5_25 ∧
  R1 c5_25 0 1 9 (.assign (.const (.int .i64 0))) ∧
  RE c5_25 1 ∧
  Reg C c5_30 ∧
  R1 c5_30 0 1 45 (.move t9) ∧
  R1 c5_30 1 2 46 (.move t2) ∧
  R1 c5_30 2 3 47 (.call ⟨.builtin .len, #[t46], #[26]⟩) ∧
  R1 c5_30 3 4 48 (.binOp .lss 3 t45 t47 3) ∧
  RE c5_30 4 ∧
  Cond C c5_31 t48 .skip (.exit 0) ∧
  Seq C c5_29 c5_30 c5_31 ∧
  Reg C c5_35 ∧
  R1 c5_35 0 1 51 (.move t2) ∧
  R1 c5_35 1 2 52 (.move t9) ∧
  R1 c5_35 2 3 53 (.indexAddr 26 t51 t52) ∧
  R1 c5_35 3 4 54 (.load 28 t53) ∧
  R1 c5_35 4 5 55 (.call ⟨.value (.func 18), #[t54], #[23]⟩) ∧
  R1 c5_35 5 6 10 (.assign t55) ∧
  RE c5_35 6 ∧
  Reg C c5_37 ∧
  R1 c5_37 0 1 56 (.move t10) ∧
  R1 c5_37 1 2 57 (.binOp .neq 3 t56 (.const (.int .i64 0)) 3) ∧
  RE c5_37 2 ∧
  Reg C c5_40 ∧
  R1 c5_40 0 1 58 (.move t8) ∧
  R1 c5_40 1 2 59 (.move t10) ∧
  R1 c5_40 2 3 60 (.binOp .eql 3 t58 t59 3) ∧
  R1 c5_40 3 4 61 (.move t60) ∧
  RG c5_40 4 5 (some 62) (.call ⟨.value (.func 9), #[], #[]⟩) 61 true ∧
  R1 c5_40 5 6 63 (.pick t61 t62 (.const (.bool false))) ∧
  R1 c5_40 6 7 6 (.assign t63) ∧
  RE c5_40 7 ∧
  Seq C c5_39 c5_40 .ret ∧
  Cond C c5_38 t57 c5_39 .skip ∧
  Seq C c5_36 c5_37 c5_38 ∧
  Seq C c5_34 c5_35 c5_36 ∧
  Blk C c5_33 1 c5_34 ∧
  Reg C c5_41 ∧
  R1 c5_41 0 1 49 (.move t9) ∧
  R1 c5_41 1 2 50 (.binOp .add 3 t49 (.const (.int .i64 1)) 3) ∧
  R1 c5_41 2 3 9 (.assign t50) ∧
  RE c5_41 3 ∧
  Seq C c5_32 c5_33 c5_41 ∧
  Seq C c5_28 c5_29 c5_32 ∧
  Lp C c5_27 c5_28 ∧
  Blk C c5_26 0 c5_27 ∧
  Seq C c5_24 c5_25 c5_26 ∧
  Reg C c5_43 ∧
  R1 c5_43 0 1 64 (.move t8) ∧
  R1 c5_43 1 2 65 (.binOp .eql 29 t64 (.const (.int .i64 0)) 29) ∧
  R1 c5_43 2 3 66 (.move t65) ∧
  RG c5_43 3 4 (some 67) (.move t8) 66 false ∧
  RG c5_43 4 5 (some 68) (.binOp .eql 29 t67 (.const (.int .i64 13)) 29) 66 false ∧
  R1 c5_43 5 6 69 (.pick t66 (.const (.bool true)) t68) ∧
  R1 c5_43 6 7 70 (.move t69) ∧
  RG c5_43 7 8 (some 71) (.move t8) 70 false ∧
  RG c5_43 8 9 (some 72) (.binOp .eql 29 t71 (.const (.int .i64 14)) 29) 70 false ∧
  R1 c5_43 9 10 73 (.pick t70 (.const (.bool true)) t72) ∧
  R1 c5_43 10 11 74 (.move t73) ∧
  RG c5_43 11 12 (some 75) (.call ⟨.value (.func 9), #[], #[]⟩) 74 true ∧
  R1 c5_43 12 13 76 (.pick t74 t75 (.const (.bool false))) ∧
  R1 c5_43 13 14 6 (.assign t76) ∧
  RE c5_43 14 ∧
  Seq C c5_42 c5_43 .ret ∧
  Seq C c5_23 c5_24 c5_42 ∧
  Seq C c5_17 c5_18 c5_23 ∧
  Seq C c5_11 c5_12 c5_17 ∧
  Seq C c5_9 c5_10 c5_11 ∧
  Seq C c5_3 c5_4 c5_9 ∧
  Seq C c5_1 c5_2 c5_3 :=
  ⟨reg_mk rfl, row1 rfl, row1 rfl, rowE rfl, reg_mk rfl, row1 rfl, row1 rfl, row1 rfl, rowE rfl, reg_mk rfl, row1 rfl, row1 rfl, rowE rfl, seq_mk rfl, cond_mk rfl, seq_mk rfl, reg_mk rfl, row1 rfl, row1 rfl, row1 rfl, row1 rfl, row1 rfl, row1 rfl, row1 rfl, row1 rfl, row1 rfl, rowE rfl, reg_mk rfl, row1 rfl, row1 rfl, row1 rfl, row1 rfl, rowE rfl, reg_mk rfl, row1 rfl, row1 rfl, row1 rfl, row1 rfl, row1 rfl, row1 rfl, rowG rfl rfl, row1 rfl, row1 rfl, rowE rfl, seq_mk rfl, cond_mk rfl, seq_mk rfl, reg_mk rfl, row1 rfl, row1 rfl, row1 rfl, row1 rfl, row1 rfl, row1 rfl, rowE rfl, reg_mk rfl, row1 rfl, row1 rfl, row1 rfl, rowG rfl rfl, row1 rfl, row1 rfl, rowE rfl, seq_mk rfl, cond_mk rfl, seq_mk rfl, reg_mk rfl, row1 rfl, rowE rfl, reg_mk rfl, row1 rfl, row1 rfl, row1 rfl, row1 rfl, rowE rfl, cond_mk rfl, seq_mk rfl, reg_mk rfl, row1 rfl, row1 rfl, row1 rfl, row1 rfl, row1 rfl, row1 rfl, rowE rfl, reg_mk rfl, row1 rfl, row1 rfl, rowE rfl, reg_mk rfl, row1 rfl, row1 rfl, row1 rfl, row1 rfl, rowG rfl rfl, row1 rfl, row1 rfl, rowE rfl, seq_mk rfl, cond_mk rfl, seq_mk rfl, seq_mk rfl, blk_mk rfl, reg_mk rfl, row1 rfl, row1 rfl, row1 rfl, rowE rfl, seq_mk rfl, seq_mk rfl, lp_mk rfl, blk_mk rfl, seq_mk rfl, reg_mk rfl, row1 rfl, row1 rfl, row1 rfl, rowG rfl rfl, rowG rfl rfl, row1 rfl, row1 rfl, rowG rfl rfl, rowG rfl rfl, row1 rfl, row1 rfl, rowG rfl rfl, row1 rfl, row1 rfl, rowE rfl, seq_mk rfl, seq_mk rfl, seq_mk rfl, seq_mk rfl, seq_mk rfl, seq_mk rfl, seq_mk rfl⟩
theorem body5 : Try.f5.body = some c5_1 := rfl
/-! fluxion/fluxionlaw12.InferOwn -/
noncomputable def c6_1 : Code := (Try.f6.body).getD .skip
noncomputable def c6_2 : Code := kid c6_1 0
noncomputable def c6_3 : Code := kid c6_1 1
noncomputable def c6_4 : Code := kid c6_3 0
noncomputable def c6_5 : Code := kid c6_4 0
noncomputable def c6_6 : Code := kid c6_4 1
noncomputable def c6_7 : Code := kid c6_6 0
noncomputable def c6_8 : Code := kid c6_7 0
noncomputable def c6_9 : Code := kid c6_3 1
noncomputable def c6_10 : Code := kid c6_9 0
noncomputable def c6_11 : Code := kid c6_9 1
noncomputable def c6_12 : Code := kid c6_11 0
noncomputable def c6_13 : Code := kid c6_12 0
noncomputable def c6_14 : Code := kid c6_12 1
noncomputable def c6_15 : Code := kid c6_14 0
noncomputable def c6_16 : Code := kid c6_15 0
noncomputable def c6_17 : Code := kid c6_16 0
noncomputable def c6_18 : Code := kid c6_17 0
noncomputable def c6_19 : Code := kid c6_17 1
noncomputable def c6_20 : Code := kid c6_16 1
noncomputable def c6_21 : Code := kid c6_20 0
noncomputable def c6_22 : Code := kid c6_21 0
noncomputable def c6_23 : Code := kid c6_20 1
noncomputable def c6_24 : Code := kid c6_11 1
noncomputable def c6_25 : Code := kid c6_24 0
noncomputable def c6_26 : Code := kid c6_24 1
noncomputable def c6_27 : Code := kid c6_26 0
noncomputable def c6_28 : Code := kid c6_26 1
noncomputable def c6_29 : Code := kid c6_28 0
noncomputable def c6_30 : Code := kid c6_29 0
noncomputable def c6_31 : Code := kid c6_29 1
noncomputable def c6_32 : Code := kid c6_31 0
noncomputable def c6_33 : Code := kid c6_32 0
noncomputable def c6_34 : Code := kid c6_33 0
noncomputable def c6_35 : Code := kid c6_34 0
noncomputable def c6_36 : Code := kid c6_34 1
noncomputable def c6_37 : Code := kid c6_33 1
noncomputable def c6_38 : Code := kid c6_37 0
noncomputable def c6_39 : Code := kid c6_38 0
noncomputable def c6_40 : Code := kid c6_37 1
noncomputable def c6_41 : Code := kid c6_28 1
noncomputable def c6_42 : Code := kid c6_41 0
noncomputable def c6_43 : Code := kid c6_42 0
noncomputable def c6_44 : Code := kid c6_42 1
noncomputable def c6_45 : Code := kid c6_44 0
noncomputable def c6_46 : Code := kid c6_45 0
noncomputable def c6_47 : Code := kid c6_46 0
noncomputable def c6_48 : Code := kid c6_47 0
noncomputable def c6_49 : Code := kid c6_47 1
noncomputable def c6_50 : Code := kid c6_46 1
noncomputable def c6_51 : Code := kid c6_50 0
noncomputable def c6_52 : Code := kid c6_51 0
noncomputable def c6_53 : Code := kid c6_52 0
noncomputable def c6_54 : Code := kid c6_52 1
noncomputable def c6_55 : Code := kid c6_54 0
noncomputable def c6_56 : Code := kid c6_55 0
noncomputable def c6_57 : Code := kid c6_50 1
noncomputable def c6_58 : Code := kid c6_41 1
noncomputable def c6_59 : Code := kid c6_58 0
@[go_sem] theorem w6 : Reg C c6_2 ∧
  R1 c6_2 0 1 4 (.box 25 t1) ∧
  R1 c6_2 1 2 6 (.assign (.const (.bool false))) ∧
  RE c6_2 2 ∧
  Reg C c6_5 ∧
  R1 c6_5 0 1 14 (.move t2) ∧
  R1 c6_5 1 2 15 (.call ⟨.builtin .len, #[t14], #[26]⟩) ∧
  R1 c6_5 2 3 16 (.binOp .gtr 3 t15 (.const (.int .i64 8)) 3) ∧
  RE c6_5 3 ∧
  Reg C c6_8 ∧
  R1 c6_8 0 1 17 (.call ⟨.value (.func 9), #[], #[]⟩) ∧
  R1 c6_8 1 2 6 (.assign t17) ∧
  RE c6_8 2 ∧
  Seq C c6_7 c6_8 .ret ∧
  Cond C c6_6 t16 c6_7 .skip ∧
  Seq C c6_4 c6_5 c6_6 ∧
  Reg C c6_10 ∧
  R1 c6_10 0 1 7 (.assign (.const (.slice none 0 0))) ∧
  RE c6_10 1 ∧
  Reg C c6_13 ∧
  R1 c6_13 0 1 8 (.assign (.const (.int .i64 0))) ∧
  RE c6_13 1 ∧
  Reg C c6_18 ∧
  R1 c6_18 0 1 18 (.move t8) ∧
  R1 c6_18 1 2 19 (.move t2) ∧
  R1 c6_18 2 3 20 (.call ⟨.builtin .len, #[t19], #[26]⟩) ∧
  R1 c6_18 3 4 21 (.binOp .lss 3 t18 t20 3) ∧
  RE c6_18 4 ∧
  Cond C c6_19 t21 .skip (.exit 0) ∧
  Seq C c6_17 c6_18 c6_19 ∧
  Reg C c6_22 ∧
  R1 c6_22 0 1 24 (.move t7) ∧
  R1 c6_22 1 2 25 (.move t2) ∧
  R1 c6_22 2 3 26 (.move t8) ∧
  R1 c6_22 3 4 27 (.indexAddr 26 t25 t26) ∧
  R1 c6_22 4 5 28 (.load 28 t27) ∧
  R1 c6_22 5 6 29 (.call ⟨.builtin .append, #[.const (.slice none 0 0), t28], #[28, 28]⟩) ∧
  R1 c6_22 6 7 30 (.buildSlice 26 1 #[(0, t29)]) ∧
  R1 c6_22 7 8 31 (.call ⟨.builtin .append, #[t24, t30], #[26, 26]⟩) ∧
  R1 c6_22 8 9 7 (.assign t31) ∧
  RE c6_22 9 ∧
  Blk C c6_21 1 c6_22 ∧
  Reg C c6_23 ∧
  R1 c6_23 0 1 22 (.move t8) ∧
  R1 c6_23 1 2 23 (.binOp .add 3 t22 (.const (.int .i64 1)) 3) ∧
  R1 c6_23 2 3 8 (.assign t23) ∧
  RE c6_23 3 ∧
  Seq C c6_20 c6_21 c6_23 ∧
  Seq C c6_16 c6_17 c6_20 ∧
  Lp C c6_15 c6_16 ∧
  Blk C c6_14 0 c6_15 ∧
  Seq C c6_12 c6_13 c6_14 ∧
  Draw C c6_25 ∧
  D1 c6_25 0 1 32 (.fieldAddr 25 t4 0) ∧
  D1 c6_25 1 2 33 (.load 22 t32) ∧
  D1 c6_25 2 3 34 (.fieldAddr 25 t4 1) ∧
  D1 c6_25 3 4 35 (.load 23 t34) ∧
  D1 c6_25 4 5 36 (.call ⟨.builtin .append, #[.const (.slice none 0 0), t35], #[23, 23]⟩) ∧
  D1 c6_25 5 6 37 (.fieldAddr 25 t4 2) ∧
  D1 c6_25 6 7 38 (.load 23 t37) ∧
  D1 c6_25 7 8 39 (.call ⟨.builtin .append, #[.const (.slice none 0 0), t38], #[23, 23]⟩) ∧
  D1 c6_25 8 9 40 (.build 25 #[(0, t33), (1, t36), (2, t39)]) ∧
  D1 c6_25 9 10 9 (.alloc 25) ∧
  D0 c6_25 10 11 (.store 25 t9 t40) ∧
  DE c6_25 11 ∧
  Reg C c6_27 ∧
  R1 c6_27 0 1 42 (.move t0) ∧
  R1 c6_27 1 2 43 (.load 25 t9) ∧
  R1 c6_27 2 3 44 (.move t7) ∧
  R1 c6_27 3 4 45 (.call ⟨.value (.func 10), #[t42, t43, t44], #[3, 25, 26]⟩) ∧
  R1 c6_27 4 5 41 (.move t45) ∧
  R1 c6_27 5 6 46 (.extract t41 0) ∧
  R1 c6_27 6 7 47 (.extract t41 1) ∧
  R1 c6_27 7 8 10 (.assign t46) ∧
  R1 c6_27 8 9 11 (.assign t47) ∧
  RE c6_27 9 ∧
  Reg C c6_30 ∧
  R1 c6_30 0 1 12 (.assign (.const (.int .i64 0))) ∧
  RE c6_30 1 ∧
  Reg C c6_35 ∧
  R1 c6_35 0 1 48 (.move t12) ∧
  R1 c6_35 1 2 49 (.move t10) ∧
  R1 c6_35 2 3 50 (.call ⟨.builtin .len, #[t49], #[28]⟩) ∧
  R1 c6_35 3 4 51 (.binOp .lss 3 t48 t50 3) ∧
  RE c6_35 4 ∧
  Cond C c6_36 t51 .skip (.exit 2) ∧
  Seq C c6_34 c6_35 c6_36 ∧
  Reg C c6_39 ∧
  R1 c6_39 0 1 54 (.move t10) ∧
  R1 c6_39 1 2 55 (.move t12) ∧
  R1 c6_39 2 3 56 (.indexAddr 28 t54 t55) ∧
  R0 c6_39 3 4 (.store 3 t56 (.const (.int .i64 (-7)))) ∧
  RE c6_39 4 ∧
  Blk C c6_38 3 c6_39 ∧
  Reg C c6_40 ∧
  R1 c6_40 0 1 52 (.move t12) ∧
  R1 c6_40 1 2 53 (.binOp .add 3 t52 (.const (.int .i64 1)) 3) ∧
  R1 c6_40 2 3 12 (.assign t53) ∧
  RE c6_40 3 ∧
  Seq C c6_37 c6_38 c6_40 ∧
  Seq C c6_33 c6_34 c6_37 ∧
  Lp C c6_32 c6_33 ∧
  Blk C c6_31 2 c6_32 ∧
  Seq C c6_29 c6_30 c6_31 ∧
  Reg C c6_43 ∧
  R1 c6_43 0 1 13 (.assign (.const (.int .i64 0))) ∧
  RE c6_43 1 ∧
  Reg C c6_48 ∧
  R1 c6_48 0 1 57 (.move t13) ∧
  R1 c6_48 1 2 58 (.move t2) ∧
  R1 c6_48 2 3 59 (.call ⟨.builtin .len, #[t58], #[26]⟩) ∧
  R1 c6_48 3 4 60 (.binOp .lss 3 t57 t59 3) ∧
  RE c6_48 4 ∧
  Cond C c6_49 t60 .skip (.exit 4) ∧
  Seq C c6_47 c6_48 c6_49 ∧
  Draw C c6_53 ∧
  D1 c6_53 0 1 63 (.move t7) ∧
  D1 c6_53 1 2 64 (.move t13) ∧
  D1 c6_53 2 3 65 (.indexAddr 26 t63 t64) ∧
  D1 c6_53 3 4 66 (.load 28 t65) ∧
  D1 c6_53 4 5 67 (.move t2) ∧
  D1 c6_53 5 6 68 (.move t13) ∧
  D1 c6_53 6 7 69 (.indexAddr 26 t67 t68) ∧
  D1 c6_53 7 8 70 (.load 28 t69) ∧
  D1 c6_53 8 9 71 (.call ⟨.value (.func 13), #[t66, t70], #[23, 23]⟩) ∧
  D1 c6_53 9 10 72 (.unOp .not 4 t71) ∧
  DE c6_53 10 ∧
  Reg C c6_56 ∧
  R1 c6_56 0 1 6 (.assign (.const (.bool false))) ∧
  RE c6_56 1 ∧
  Seq C c6_55 c6_56 .ret ∧
  Cond C c6_54 t72 c6_55 .skip ∧
  Seq C c6_52 c6_53 c6_54 ∧
  Blk C c6_51 5 c6_52 ∧
  Reg C c6_57 ∧
  R1 c6_57 0 1 61 (.move t13) ∧
  R1 c6_57 1 2 62 (.binOp .add 3 t61 (.const (.int .i64 1)) 3) ∧
  R1 c6_57 2 3 13 (.assign t62) ∧
  RE c6_57 3 ∧
  Seq C c6_50 c6_51 c6_57 ∧
  Seq C c6_46 c6_47 c6_50 ∧
  Lp C c6_45 c6_46 ∧
  Blk C c6_44 4 c6_45 ∧
  Seq C c6_42 c6_43 c6_44 ∧
  Reg C c6_59 ∧
  R1 c6_59 0 1 73 (.fieldAddr 25 t9 2) ∧
  R1 c6_59 1 2 74 (.load 23 t73) ∧
  R1 c6_59 2 3 75 (.fieldAddr 25 t4 2) ∧
  R1 c6_59 3 4 76 (.load 23 t75) ∧
  R1 c6_59 4 5 77 (.call ⟨.value (.func 13), #[t74, t76], #[23, 23]⟩) ∧
  R1 c6_59 5 6 78 (.move t77) ∧
  RG c6_59 6 7 (some 79) (.fieldAddr 25 t9 1) 78 true ∧
  RG c6_59 7 8 (some 80) (.load 23 t79) 78 true ∧
  RG c6_59 8 9 (some 81) (.fieldAddr 25 t4 1) 78 true ∧
  RG c6_59 9 10 (some 82) (.load 23 t81) 78 true ∧
  RG c6_59 10 11 (some 83) (.call ⟨.value (.func 13), #[t80, t82], #[23, 23]⟩) 78 true ∧
  R1 c6_59 11 12 84 (.pick t78 t83 (.const (.bool false))) ∧
  R1 c6_59 12 13 85 (.move t84) ∧
  RG c6_59 13 14 (some 86) (.call ⟨.value (.func 9), #[], #[]⟩) 85 true ∧
  R1 c6_59 14 15 87 (.pick t85 t86 (.const (.bool false))) ∧
  R1 c6_59 15 16 6 (.assign t87) ∧
  RE c6_59 16 ∧
  Seq C c6_58 c6_59 .ret ∧
  Seq C c6_41 c6_42 c6_58 ∧
  Seq C c6_28 c6_29 c6_41 ∧
  Seq C c6_26 c6_27 c6_28 ∧
  Seq C c6_24 c6_25 c6_26 ∧
  Seq C c6_11 c6_12 c6_24 ∧
  Seq C c6_9 c6_10 c6_11 ∧
  Seq C c6_3 c6_4 c6_9 ∧
  Seq C c6_1 c6_2 c6_3 :=
  ⟨reg_mk rfl, row1 rfl, row1 rfl, rowE rfl, reg_mk rfl, row1 rfl, row1 rfl, row1 rfl, rowE rfl, reg_mk rfl, row1 rfl, row1 rfl, rowE rfl, seq_mk rfl, cond_mk rfl, seq_mk rfl, reg_mk rfl, row1 rfl, rowE rfl, reg_mk rfl, row1 rfl, rowE rfl, reg_mk rfl, row1 rfl, row1 rfl, row1 rfl, row1 rfl, rowE rfl, cond_mk rfl, seq_mk rfl, reg_mk rfl, row1 rfl, row1 rfl, row1 rfl, row1 rfl, row1 rfl, row1 rfl, row1 rfl, row1 rfl, row1 rfl, rowE rfl, blk_mk rfl, reg_mk rfl, row1 rfl, row1 rfl, row1 rfl, rowE rfl, seq_mk rfl, seq_mk rfl, lp_mk rfl, blk_mk rfl, seq_mk rfl, draw_mk rfl, dow1 rfl, dow1 rfl, dow1 rfl, dow1 rfl, dow1 rfl, dow1 rfl, dow1 rfl, dow1 rfl, dow1 rfl, dow1 rfl, dow0 rfl, dowE rfl, reg_mk rfl, row1 rfl, row1 rfl, row1 rfl, row1 rfl, row1 rfl, row1 rfl, row1 rfl, row1 rfl, row1 rfl, rowE rfl, reg_mk rfl, row1 rfl, rowE rfl, reg_mk rfl, row1 rfl, row1 rfl, row1 rfl, row1 rfl, rowE rfl, cond_mk rfl, seq_mk rfl, reg_mk rfl, row1 rfl, row1 rfl, row1 rfl, row0 rfl, rowE rfl, blk_mk rfl, reg_mk rfl, row1 rfl, row1 rfl, row1 rfl, rowE rfl, seq_mk rfl, seq_mk rfl, lp_mk rfl, blk_mk rfl, seq_mk rfl, reg_mk rfl, row1 rfl, rowE rfl, reg_mk rfl, row1 rfl, row1 rfl, row1 rfl, row1 rfl, rowE rfl, cond_mk rfl, seq_mk rfl, draw_mk rfl, dow1 rfl, dow1 rfl, dow1 rfl, dow1 rfl, dow1 rfl, dow1 rfl, dow1 rfl, dow1 rfl, dow1 rfl, dow1 rfl, dowE rfl, reg_mk rfl, row1 rfl, rowE rfl, seq_mk rfl, cond_mk rfl, seq_mk rfl, blk_mk rfl, reg_mk rfl, row1 rfl, row1 rfl, row1 rfl, rowE rfl, seq_mk rfl, seq_mk rfl, lp_mk rfl, blk_mk rfl, seq_mk rfl, reg_mk rfl, row1 rfl, row1 rfl, row1 rfl, row1 rfl, row1 rfl, row1 rfl, rowG rfl rfl, rowG rfl rfl, rowG rfl rfl, rowG rfl rfl, rowG rfl rfl, row1 rfl, row1 rfl, rowG rfl rfl, row1 rfl, row1 rfl, rowE rfl, seq_mk rfl, seq_mk rfl, seq_mk rfl, seq_mk rfl, seq_mk rfl, seq_mk rfl, seq_mk rfl, seq_mk rfl, seq_mk rfl⟩
theorem body6 : Try.f6.body = some c6_1 := rfl
/-! fluxion/fluxionlaw12.InferMay -/
noncomputable def c7_1 : Code := (Try.f7.body).getD .skip
noncomputable def c7_2 : Code := kid c7_1 0
noncomputable def c7_3 : Code := kid c7_1 1
noncomputable def c7_4 : Code := kid c7_3 0
noncomputable def c7_5 : Code := kid c7_4 0
noncomputable def c7_6 : Code := kid c7_4 1
noncomputable def c7_7 : Code := kid c7_6 0
noncomputable def c7_8 : Code := kid c7_7 0
noncomputable def c7_9 : Code := kid c7_3 1
noncomputable def c7_10 : Code := kid c7_9 0
noncomputable def c7_11 : Code := kid c7_9 1
noncomputable def c7_12 : Code := kid c7_11 0
noncomputable def c7_13 : Code := kid c7_11 1
noncomputable def c7_14 : Code := kid c7_13 0
noncomputable def c7_15 : Code := kid c7_14 0
noncomputable def c7_16 : Code := kid c7_14 1
noncomputable def c7_17 : Code := kid c7_16 0
noncomputable def c7_18 : Code := kid c7_17 0
noncomputable def c7_19 : Code := kid c7_18 0
noncomputable def c7_20 : Code := kid c7_19 0
noncomputable def c7_21 : Code := kid c7_19 1
noncomputable def c7_22 : Code := kid c7_18 1
noncomputable def c7_23 : Code := kid c7_22 0
noncomputable def c7_24 : Code := kid c7_23 0
noncomputable def c7_25 : Code := kid c7_22 1
noncomputable def c7_26 : Code := kid c7_13 1
noncomputable def c7_27 : Code := kid c7_26 0
noncomputable def c7_28 : Code := kid c7_27 0
noncomputable def c7_29 : Code := kid c7_27 1
noncomputable def c7_30 : Code := kid c7_29 0
noncomputable def c7_31 : Code := kid c7_30 0
noncomputable def c7_32 : Code := kid c7_26 1
noncomputable def c7_33 : Code := kid c7_32 0
@[go_sem] theorem w7 : Reg C c7_2 ∧
  R1 c7_2 0 1 4 (.box 25 t1) ∧
  R1 c7_2 1 2 6 (.assign (.const (.bool false))) ∧
  RE c7_2 2 ∧
  Reg C c7_5 ∧
  R1 c7_5 0 1 11 (.move t2) ∧
  R1 c7_5 1 2 12 (.call ⟨.builtin .len, #[t11], #[26]⟩) ∧
  R1 c7_5 2 3 13 (.binOp .gtr 3 t12 (.const (.int .i64 20)) 3) ∧
  RE c7_5 3 ∧
  Reg C c7_8 ∧
  R1 c7_8 0 1 14 (.call ⟨.value (.func 9), #[], #[]⟩) ∧
  R1 c7_8 1 2 6 (.assign t14) ∧
  RE c7_8 2 ∧
  Seq C c7_7 c7_8 .ret ∧
  Cond C c7_6 t13 c7_7 .skip ∧
  Seq C c7_4 c7_5 c7_6 ∧
  Reg C c7_10 ∧
  R1 c7_10 0 1 16 (.move t0) ∧
  R1 c7_10 1 2 17 (.load 25 t4) ∧
  R1 c7_10 2 3 18 (.move t2) ∧
  R1 c7_10 3 4 19 (.call ⟨.value (.func 10), #[t16, t17, t18], #[3, 25, 26]⟩) ∧
  R1 c7_10 4 5 15 (.move t19) ∧
  R1 c7_10 5 6 20 (.extract t15 0) ∧
  R1 c7_10 6 7 21 (.extract t15 1) ∧
  R1 c7_10 7 8 7 (.assign t20) ∧
  R1 c7_10 8 9 8 (.assign t21) ∧
  RE c7_10 9 ∧
  Reg C c7_12 ∧
  R1 c7_12 0 1 9 (.assign (.const (.int .i64 0))) ∧
  RE c7_12 1 ∧
  Reg C c7_15 ∧
  R1 c7_15 0 1 10 (.assign (.const (.int .i64 0))) ∧
  RE c7_15 1 ∧
  Reg C c7_20 ∧
  R1 c7_20 0 1 22 (.move t10) ∧
  R1 c7_20 1 2 23 (.move t2) ∧
  R1 c7_20 2 3 24 (.call ⟨.builtin .len, #[t23], #[26]⟩) ∧
  R1 c7_20 3 4 25 (.binOp .lss 3 t22 t24 3) ∧
  RE c7_20 4 ∧
  Cond C c7_21 t25 .skip (.exit 0) ∧
  Seq C c7_19 c7_20 c7_21 ∧
  Reg C c7_24 ∧
  R1 c7_24 0 1 28 (.move t9) ∧
  R1 c7_24 1 2 29 (.move t2) ∧
  R1 c7_24 2 3 30 (.move t10) ∧
  R1 c7_24 3 4 31 (.indexAddr 26 t29 t30) ∧
  R1 c7_24 4 5 32 (.load 28 t31) ∧
  R1 c7_24 5 6 33 (.call ⟨.value (.func 19), #[t32], #[23]⟩) ∧
  R1 c7_24 6 7 34 (.binOp .add 3 t28 t33 3) ∧
  R1 c7_24 7 8 9 (.assign t34) ∧
  RE c7_24 8 ∧
  Blk C c7_23 1 c7_24 ∧
  Reg C c7_25 ∧
  R1 c7_25 0 1 26 (.move t10) ∧
  R1 c7_25 1 2 27 (.binOp .add 3 t26 (.const (.int .i64 1)) 3) ∧
  R1 c7_25 2 3 10 (.assign t27) ∧
  RE c7_25 3 ∧
  Seq C c7_22 c7_23 c7_25 ∧
  Seq C c7_18 c7_19 c7_22 ∧
  Lp C c7_17 c7_18 ∧
  Blk C c7_16 0 c7_17 ∧
  Seq C c7_14 c7_15 c7_16 ∧
  Reg C c7_28 ∧
  R1 c7_28 0 1 35 (.move t8) ∧
  R1 c7_28 1 2 36 (.binOp .neq 29 t35 (.const (.int .i64 0)) 29) ∧
  RE c7_28 2 ∧
  Reg C c7_31 ∧
  R1 c7_31 0 1 37 (.move t7) ∧
  R1 c7_31 1 2 38 (.call ⟨.builtin .len, #[t37], #[28]⟩) ∧
  R1 c7_31 2 3 39 (.binOp .eql 3 t38 (.const (.int .i64 0)) 3) ∧
  R1 c7_31 3 4 40 (.move t39) ∧
  RG c7_31 4 5 (some 41) (.move t0) 40 true ∧
  RG c7_31 5 6 (some 42) (.load 25 t4) 40 true ∧
  RG c7_31 6 7 (some 43) (.move t2) 40 true ∧
  RG c7_31 7 8 (some 44) (.call ⟨.value (.func 20), #[t41, t42, t43], #[3, 25, 26]⟩) 40 true ∧
  RG c7_31 8 9 (some 45) (.unOp .not 4 t44) 40 true ∧
  R1 c7_31 9 10 46 (.pick t40 t45 (.const (.bool false))) ∧
  R1 c7_31 10 11 47 (.move t46) ∧
  RG c7_31 11 12 (some 48) (.call ⟨.value (.func 9), #[], #[]⟩) 47 true ∧
  R1 c7_31 12 13 49 (.pick t47 t48 (.const (.bool false))) ∧
  R1 c7_31 13 14 6 (.assign t49) ∧
  RE c7_31 14 ∧
  Seq C c7_30 c7_31 .ret ∧
  Cond C c7_29 t36 c7_30 .skip ∧
  Seq C c7_27 c7_28 c7_29 ∧
  Reg C c7_33 ∧
  R1 c7_33 0 1 50 (.move t7) ∧
  R1 c7_33 1 2 51 (.call ⟨.value (.func 18), #[t50], #[23]⟩) ∧
  R1 c7_33 2 3 52 (.binOp .eql 3 t51 (.const (.int .i64 0)) 3) ∧
  R1 c7_33 3 4 53 (.move t52) ∧
  RG c7_33 4 5 (some 54) (.move t0) 53 true ∧
  RG c7_33 5 6 (some 55) (.load 25 t4) 53 true ∧
  RG c7_33 6 7 (some 56) (.move t2) 53 true ∧
  RG c7_33 7 8 (some 57) (.call ⟨.value (.func 20), #[t54, t55, t56], #[3, 25, 26]⟩) 53 true ∧
  RG c7_33 8 9 (some 58) (.move t7) 53 true ∧
  RG c7_33 9 10 (some 59) (.call ⟨.value (.func 19), #[t58], #[23]⟩) 53 true ∧
  RG c7_33 10 11 (some 60) (.move t9) 53 true ∧
  RG c7_33 11 12 (some 61) (.binOp .gtr 3 t59 t60 3) 53 true ∧
  RG c7_33 12 13 (some 62) (.binOp .eql 4 t57 t61 4) 53 true ∧
  R1 c7_33 13 14 63 (.pick t53 t62 (.const (.bool false))) ∧
  R1 c7_33 14 15 64 (.move t63) ∧
  RG c7_33 15 16 (some 65) (.call ⟨.value (.func 9), #[], #[]⟩) 64 true ∧
  R1 c7_33 16 17 66 (.pick t64 t65 (.const (.bool false))) ∧
  R1 c7_33 17 18 6 (.assign t66) ∧
  RE c7_33 18 ∧
  Seq C c7_32 c7_33 .ret ∧
  Seq C c7_26 c7_27 c7_32 ∧
  Seq C c7_13 c7_14 c7_26 ∧
  Seq C c7_11 c7_12 c7_13 ∧
  Seq C c7_9 c7_10 c7_11 ∧
  Seq C c7_3 c7_4 c7_9 ∧
  Seq C c7_1 c7_2 c7_3 :=
  ⟨reg_mk rfl, row1 rfl, row1 rfl, rowE rfl, reg_mk rfl, row1 rfl, row1 rfl, row1 rfl, rowE rfl, reg_mk rfl, row1 rfl, row1 rfl, rowE rfl, seq_mk rfl, cond_mk rfl, seq_mk rfl, reg_mk rfl, row1 rfl, row1 rfl, row1 rfl, row1 rfl, row1 rfl, row1 rfl, row1 rfl, row1 rfl, row1 rfl, rowE rfl, reg_mk rfl, row1 rfl, rowE rfl, reg_mk rfl, row1 rfl, rowE rfl, reg_mk rfl, row1 rfl, row1 rfl, row1 rfl, row1 rfl, rowE rfl, cond_mk rfl, seq_mk rfl, reg_mk rfl, row1 rfl, row1 rfl, row1 rfl, row1 rfl, row1 rfl, row1 rfl, row1 rfl, row1 rfl, rowE rfl, blk_mk rfl, reg_mk rfl, row1 rfl, row1 rfl, row1 rfl, rowE rfl, seq_mk rfl, seq_mk rfl, lp_mk rfl, blk_mk rfl, seq_mk rfl, reg_mk rfl, row1 rfl, row1 rfl, rowE rfl, reg_mk rfl, row1 rfl, row1 rfl, row1 rfl, row1 rfl, rowG rfl rfl, rowG rfl rfl, rowG rfl rfl, rowG rfl rfl, rowG rfl rfl, row1 rfl, row1 rfl, rowG rfl rfl, row1 rfl, row1 rfl, rowE rfl, seq_mk rfl, cond_mk rfl, seq_mk rfl, reg_mk rfl, row1 rfl, row1 rfl, row1 rfl, row1 rfl, rowG rfl rfl, rowG rfl rfl, rowG rfl rfl, rowG rfl rfl, rowG rfl rfl, rowG rfl rfl, rowG rfl rfl, rowG rfl rfl, rowG rfl rfl, row1 rfl, row1 rfl, rowG rfl rfl, row1 rfl, row1 rfl, rowE rfl, seq_mk rfl, seq_mk rfl, seq_mk rfl, seq_mk rfl, seq_mk rfl, seq_mk rfl, seq_mk rfl⟩
theorem body7 : Try.f7.body = some c7_1 := rfl
/-! fluxion/fluxionlaw12.InferScalars -/
noncomputable def c8_1 : Code := (Try.f8.body).getD .skip
noncomputable def c8_2 : Code := kid c8_1 0
noncomputable def c8_3 : Code := kid c8_1 1
noncomputable def c8_4 : Code := kid c8_3 0
noncomputable def c8_5 : Code := kid c8_3 1
noncomputable def c8_6 : Code := kid c8_5 0
noncomputable def c8_7 : Code := kid c8_5 1
noncomputable def c8_8 : Code := kid c8_7 0
noncomputable def c8_9 : Code := kid c8_7 1
noncomputable def c8_10 : Code := kid c8_9 0
noncomputable def c8_11 : Code := kid c8_9 1
noncomputable def c8_12 : Code := kid c8_11 0
noncomputable def c8_13 : Code := kid c8_11 1
noncomputable def c8_14 : Code := kid c8_13 0
noncomputable def c8_15 : Code := kid c8_13 1
noncomputable def c8_16 : Code := kid c8_15 0
noncomputable def c8_17 : Code := kid c8_15 1
noncomputable def c8_18 : Code := kid c8_17 0
@[go_sem] theorem w8 : Reg C c8_2 ∧
  R1 c8_2 0 1 0 (.assign (.const (.bool false))) ∧
  RE c8_2 1 ∧
  Reg C c8_4 ∧
  R1 c8_4 0 1 16 (.call ⟨.value (.func 21), #[.const (.int .i64 1), .const (.int .i64 2), .const (.slice none 0 0)], #[22, 3, 23]⟩) ∧
  R1 c8_4 1 2 17 (.buildSlice 26 2 #[(0, .const (.slice none 0 0)), (1, .const (.slice none 0 0))]) ∧
  R1 c8_4 2 3 18 (.call ⟨.value (.func 10), #[.const (.int .i64 3), t16, t17], #[3, 25, 26]⟩) ∧
  R1 c8_4 3 4 15 (.move t18) ∧
  R1 c8_4 4 5 19 (.extract t15 0) ∧
  R1 c8_4 5 6 20 (.extract t15 1) ∧
  R1 c8_4 6 7 1 (.assign t19) ∧
  R1 c8_4 7 8 2 (.assign t20) ∧
  RE c8_4 8 ∧
  Reg C c8_6 ∧
  R1 c8_6 0 1 22 (.call ⟨.value (.func 21), #[.const (.int .i64 14), .const (.int .i64 1), .const (.slice none 0 0)], #[22, 3, 23]⟩) ∧
  R1 c8_6 1 2 23 (.buildSlice 26 1 #[(0, .const (.slice none 0 0))]) ∧
  R1 c8_6 2 3 24 (.call ⟨.value (.func 10), #[.const (.int .i64 3), t22, t23], #[3, 25, 26]⟩) ∧
  R1 c8_6 3 4 21 (.move t24) ∧
  R1 c8_6 4 5 25 (.extract t21 0) ∧
  R1 c8_6 5 6 26 (.extract t21 1) ∧
  R1 c8_6 6 7 3 (.assign t25) ∧
  R1 c8_6 7 8 4 (.assign t26) ∧
  RE c8_6 8 ∧
  Reg C c8_8 ∧
  R1 c8_8 0 1 28 (.call ⟨.value (.func 21), #[.const (.int .i64 11), .const (.int .i64 1), .const (.slice none 0 0)], #[22, 3, 23]⟩) ∧
  R1 c8_8 1 2 29 (.buildSlice 26 1 #[(0, .const (.slice none 0 0))]) ∧
  R1 c8_8 2 3 30 (.call ⟨.value (.func 10), #[.const (.int .i64 1), t28, t29], #[3, 25, 26]⟩) ∧
  R1 c8_8 3 4 27 (.move t30) ∧
  R1 c8_8 4 5 31 (.extract t27 0) ∧
  R1 c8_8 5 6 32 (.extract t27 1) ∧
  R1 c8_8 6 7 5 (.assign t31) ∧
  R1 c8_8 7 8 6 (.assign t32) ∧
  RE c8_8 8 ∧
  Reg C c8_10 ∧
  R1 c8_10 0 1 34 (.buildSlice 23 2 #[(0, .const (.int .i64 2)), (1, .const (.int .i64 2))]) ∧
  R1 c8_10 1 2 35 (.call ⟨.value (.func 21), #[.const (.int .i64 13), .const (.int .i64 1), t34], #[22, 3, 23]⟩) ∧
  R1 c8_10 2 3 36 (.buildSlice 26 1 #[(0, .const (.slice none 0 0))]) ∧
  R1 c8_10 3 4 37 (.call ⟨.value (.func 10), #[.const (.int .i64 3), t35, t36], #[3, 25, 26]⟩) ∧
  R1 c8_10 4 5 33 (.move t37) ∧
  R1 c8_10 5 6 38 (.extract t33 0) ∧
  R1 c8_10 6 7 39 (.extract t33 1) ∧
  R1 c8_10 7 8 7 (.assign t38) ∧
  R1 c8_10 8 9 8 (.assign t39) ∧
  RE c8_10 9 ∧
  Reg C c8_12 ∧
  R1 c8_12 0 1 41 (.call ⟨.value (.func 21), #[.const (.int .i64 12), .const (.int .i64 1), .const (.slice none 0 0)], #[22, 3, 23]⟩) ∧
  R1 c8_12 1 2 42 (.buildSlice 28 2 #[(0, .const (.int .i64 1)), (1, .const (.int .i64 1))]) ∧
  R1 c8_12 2 3 43 (.buildSlice 26 1 #[(0, t42)]) ∧
  R1 c8_12 3 4 44 (.call ⟨.value (.func 10), #[.const (.int .i64 3), t41, t43], #[3, 25, 26]⟩) ∧
  R1 c8_12 4 5 40 (.move t44) ∧
  R1 c8_12 5 6 45 (.extract t40 0) ∧
  R1 c8_12 6 7 46 (.extract t40 1) ∧
  R1 c8_12 7 8 9 (.assign t45) ∧
  R1 c8_12 8 9 10 (.assign t46) ∧
  RE c8_12 9 ∧
  Reg C c8_14 ∧
  R1 c8_14 0 1 48 (.buildSlice 23 1 #[(0, .const (.int .i64 0))]) ∧
  R1 c8_14 1 2 49 (.call ⟨.value (.func 21), #[.const (.int .i64 17), .const (.int .i64 1), t48], #[22, 3, 23]⟩) ∧
  R1 c8_14 2 3 50 (.buildSlice 26 1 #[(0, .const (.slice none 0 0))]) ∧
  R1 c8_14 3 4 51 (.call ⟨.value (.func 10), #[.const (.int .i64 3), t49, t50], #[3, 25, 26]⟩) ∧
  R1 c8_14 4 5 47 (.move t51) ∧
  R1 c8_14 5 6 52 (.extract t47 0) ∧
  R1 c8_14 6 7 53 (.extract t47 1) ∧
  R1 c8_14 7 8 11 (.assign t52) ∧
  R1 c8_14 8 9 12 (.assign t53) ∧
  RE c8_14 9 ∧
  Reg C c8_16 ∧
  R1 c8_16 0 1 55 (.call ⟨.value (.func 21), #[.const (.int .i64 10), .const (.int .i64 2), .const (.slice none 0 0)], #[22, 3, 23]⟩) ∧
  R1 c8_16 1 2 56 (.buildSlice 26 2 #[(0, .const (.slice none 0 0)), (1, .const (.slice none 0 0))]) ∧
  R1 c8_16 2 3 57 (.call ⟨.value (.func 10), #[.const (.int .i64 3), t55, t56], #[3, 25, 26]⟩) ∧
  R1 c8_16 3 4 54 (.move t57) ∧
  R1 c8_16 4 5 58 (.extract t54 0) ∧
  R1 c8_16 5 6 59 (.extract t54 1) ∧
  R1 c8_16 6 7 13 (.assign t58) ∧
  R1 c8_16 7 8 14 (.assign t59) ∧
  RE c8_16 8 ∧
  Reg C c8_18 ∧
  R1 c8_18 0 1 60 (.move t2) ∧
  R1 c8_18 1 2 61 (.binOp .eql 29 t60 (.const (.int .i64 0)) 29) ∧
  R1 c8_18 2 3 62 (.move t61) ∧
  RG c8_18 3 4 (some 63) (.move t1) 62 true ∧
  RG c8_18 4 5 (some 64) (.call ⟨.builtin .len, #[t63], #[28]⟩) 62 true ∧
  RG c8_18 5 6 (some 65) (.binOp .eql 3 t64 (.const (.int .i64 0)) 3) 62 true ∧
  R1 c8_18 6 7 66 (.pick t62 t65 (.const (.bool false))) ∧
  R1 c8_18 7 8 67 (.move t66) ∧
  RG c8_18 8 9 (some 68) (.move t4) 67 true ∧
  RG c8_18 9 10 (some 69) (.binOp .eql 29 t68 (.const (.int .i64 0)) 29) 67 true ∧
  R1 c8_18 10 11 70 (.pick t67 t69 (.const (.bool false))) ∧
  R1 c8_18 11 12 71 (.move t70) ∧
  RG c8_18 12 13 (some 72) (.move t3) 71 true ∧
  RG c8_18 13 14 (some 73) (.call ⟨.builtin .len, #[t72], #[28]⟩) 71 true ∧
  RG c8_18 14 15 (some 74) (.binOp .eql 3 t73 (.const (.int .i64 0)) 3) 71 true ∧
  R1 c8_18 15 16 75 (.pick t71 t74 (.const (.bool false))) ∧
  R1 c8_18 16 17 76 (.move t75) ∧
  RG c8_18 17 18 (some 77) (.move t6) 76 true ∧
  RG c8_18 18 19 (some 78) (.binOp .eql 29 t77 (.const (.int .i64 0)) 29) 76 true ∧
  R1 c8_18 19 20 79 (.pick t76 t78 (.const (.bool false))) ∧
  R1 c8_18 20 21 80 (.move t79) ∧
  RG c8_18 21 22 (some 81) (.move t5) 80 true ∧
  RG c8_18 22 23 (some 82) (.call ⟨.builtin .len, #[t81], #[28]⟩) 80 true ∧
  RG c8_18 23 24 (some 83) (.binOp .eql 3 t82 (.const (.int .i64 0)) 3) 80 true ∧
  R1 c8_18 24 25 84 (.pick t80 t83 (.const (.bool false))) ∧
  R1 c8_18 25 26 85 (.move t84) ∧
  RG c8_18 26 27 (some 86) (.move t8) 85 true ∧
  RG c8_18 27 28 (some 87) (.binOp .eql 29 t86 (.const (.int .i64 0)) 29) 85 true ∧
  R1 c8_18 28 29 88 (.pick t85 t87 (.const (.bool false))) ∧
  R1 c8_18 29 30 89 (.move t88) ∧
  RG c8_18 30 31 (some 90) (.move t7) 89 true ∧
  RG c8_18 31 32 (some 91) (.buildSlice 23 2 #[(0, .const (.int .i64 2)), (1, .const (.int .i64 2))]) 89 true ∧
  RG c8_18 32 33 (some 92) (.call ⟨.value (.func 13), #[t90, t91], #[23, 23]⟩) 89 true ∧
  R1 c8_18 33 34 93 (.pick t89 t92 (.const (.bool false))) ∧
  R1 c8_18 34 35 94 (.move t93) ∧
  RG c8_18 35 36 (some 95) (.move t10) 94 true ∧
  RG c8_18 36 37 (some 96) (.binOp .eql 29 t95 (.const (.int .i64 0)) 29) 94 true ∧
  R1 c8_18 37 38 97 (.pick t94 t96 (.const (.bool false))) ∧
  R1 c8_18 38 39 98 (.move t97) ∧
  RG c8_18 39 40 (some 99) (.move t9) 98 true ∧
  RG c8_18 40 41 (some 100) (.call ⟨.builtin .len, #[t99], #[28]⟩) 98 true ∧
  RG c8_18 41 42 (some 101) (.binOp .eql 3 t100 (.const (.int .i64 0)) 3) 98 true ∧
  R1 c8_18 42 43 102 (.pick t98 t101 (.const (.bool false))) ∧
  R1 c8_18 43 44 103 (.move t102) ∧
  RG c8_18 44 45 (some 104) (.move t12) 103 true ∧
  RG c8_18 45 46 (some 105) (.binOp .eql 29 t104 (.const (.int .i64 13)) 29) 103 true ∧
  R1 c8_18 46 47 106 (.pick t103 t105 (.const (.bool false))) ∧
  R1 c8_18 47 48 107 (.move t106) ∧
  RG c8_18 48 49 (some 108) (.move t14) 107 true ∧
  RG c8_18 49 50 (some 109) (.binOp .eql 29 t108 (.const (.int .i64 13)) 29) 107 true ∧
  R1 c8_18 50 51 110 (.pick t107 t109 (.const (.bool false))) ∧
  R1 c8_18 51 52 111 (.move t110) ∧
  RG c8_18 52 53 (some 112) (.buildSlice 23 2 #[(0, .const (.int .i64 2)), (1, .const (.int .i64 2))]) 111 true ∧
  RG c8_18 53 54 (some 113) (.call ⟨.value (.func 21), #[.const (.int .i64 13), .const (.int .i64 1), t112], #[22, 3, 23]⟩) 111 true ∧
  RG c8_18 54 55 (some 114) (.buildSlice 26 1 #[(0, .const (.slice none 0 0))]) 111 true ∧
  RG c8_18 55 56 (some 115) (.call ⟨.value (.func 20), #[.const (.int .i64 3), t113, t114], #[3, 25, 26]⟩) 111 true ∧
  R1 c8_18 56 57 116 (.pick t111 t115 (.const (.bool false))) ∧
  R1 c8_18 57 58 117 (.move t116) ∧
  RG c8_18 58 59 (some 118) (.call ⟨.value (.func 21), #[.const (.int .i64 1), .const (.int .i64 2), .const (.slice none 0 0)], #[22, 3, 23]⟩) 117 true ∧
  RG c8_18 59 60 (some 119) (.buildSlice 26 2 #[(0, .const (.slice none 0 0)), (1, .const (.slice none 0 0))]) 117 true ∧
  RG c8_18 60 61 (some 120) (.call ⟨.value (.func 20), #[.const (.int .i64 3), t118, t119], #[3, 25, 26]⟩) 117 true ∧
  RG c8_18 61 62 (some 121) (.unOp .not 4 t120) 117 true ∧
  R1 c8_18 62 63 122 (.pick t117 t121 (.const (.bool false))) ∧
  R1 c8_18 63 64 123 (.move t122) ∧
  RG c8_18 64 65 (some 124) (.call ⟨.value (.func 9), #[], #[]⟩) 123 true ∧
  R1 c8_18 65 66 125 (.pick t123 t124 (.const (.bool false))) ∧
  R1 c8_18 66 67 0 (.assign t125) ∧
  RE c8_18 67 ∧
  Seq C c8_17 c8_18 .ret ∧
  Seq C c8_15 c8_16 c8_17 ∧
  Seq C c8_13 c8_14 c8_15 ∧
  Seq C c8_11 c8_12 c8_13 ∧
  Seq C c8_9 c8_10 c8_11 ∧
  Seq C c8_7 c8_8 c8_9 ∧
  Seq C c8_5 c8_6 c8_7 ∧
  Seq C c8_3 c8_4 c8_5 ∧
  Seq C c8_1 c8_2 c8_3 :=
  ⟨reg_mk rfl, row1 rfl, rowE rfl, reg_mk rfl, row1 rfl, row1 rfl, row1 rfl, row1 rfl, row1 rfl, row1 rfl, row1 rfl, row1 rfl, rowE rfl, reg_mk rfl, row1 rfl, row1 rfl, row1 rfl, row1 rfl, row1 rfl, row1 rfl, row1 rfl, row1 rfl, rowE rfl, reg_mk rfl, row1 rfl, row1 rfl, row1 rfl, row1 rfl, row1 rfl, row1 rfl, row1 rfl, row1 rfl, rowE rfl, reg_mk rfl, row1 rfl, row1 rfl, row1 rfl, row1 rfl, row1 rfl, row1 rfl, row1 rfl, row1 rfl, row1 rfl, rowE rfl, reg_mk rfl, row1 rfl, row1 rfl, row1 rfl, row1 rfl, row1 rfl, row1 rfl, row1 rfl, row1 rfl, row1 rfl, rowE rfl, reg_mk rfl, row1 rfl, row1 rfl, row1 rfl, row1 rfl, row1 rfl, row1 rfl, row1 rfl, row1 rfl, row1 rfl, rowE rfl, reg_mk rfl, row1 rfl, row1 rfl, row1 rfl, row1 rfl, row1 rfl, row1 rfl, row1 rfl, row1 rfl, rowE rfl, reg_mk rfl, row1 rfl, row1 rfl, row1 rfl, rowG rfl rfl, rowG rfl rfl, rowG rfl rfl, row1 rfl, row1 rfl, rowG rfl rfl, rowG rfl rfl, row1 rfl, row1 rfl, rowG rfl rfl, rowG rfl rfl, rowG rfl rfl, row1 rfl, row1 rfl, rowG rfl rfl, rowG rfl rfl, row1 rfl, row1 rfl, rowG rfl rfl, rowG rfl rfl, rowG rfl rfl, row1 rfl, row1 rfl, rowG rfl rfl, rowG rfl rfl, row1 rfl, row1 rfl, rowG rfl rfl, rowG rfl rfl, rowG rfl rfl, row1 rfl, row1 rfl, rowG rfl rfl, rowG rfl rfl, row1 rfl, row1 rfl, rowG rfl rfl, rowG rfl rfl, rowG rfl rfl, row1 rfl, row1 rfl, rowG rfl rfl, rowG rfl rfl, row1 rfl, row1 rfl, rowG rfl rfl, rowG rfl rfl, row1 rfl, row1 rfl, rowG rfl rfl, rowG rfl rfl, rowG rfl rfl, rowG rfl rfl, row1 rfl, row1 rfl, rowG rfl rfl, rowG rfl rfl, rowG rfl rfl, rowG rfl rfl, row1 rfl, row1 rfl, rowG rfl rfl, row1 rfl, row1 rfl, rowE rfl, seq_mk rfl, seq_mk rfl, seq_mk rfl, seq_mk rfl, seq_mk rfl, seq_mk rfl, seq_mk rfl, seq_mk rfl, seq_mk rfl⟩
theorem body8 : Try.f8.body = some c8_1 := rfl
end Go.Proofs.Ytlomgfdepllanaa
end
