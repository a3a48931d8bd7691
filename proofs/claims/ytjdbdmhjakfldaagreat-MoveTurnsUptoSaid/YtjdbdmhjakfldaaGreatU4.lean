/-
  Parts CodeI, Sh9, Srt, Srt2, Seq1, Seq2, Seq3, NatP, RefP, RatP, KnuP, DivP, TenP, Num1, Num2, Num3, Num4, Num5, Num6, Num7, Num8, Num9, Num10, Num11, Num12, Num13, Num14, RefN1, RefN2, RefN3, one behind the other: a program logic of our own, contracts of functions.
-/
import Derived.Test.YtjdbdmhjakfldaaGreatU3

set_option linter.unusedVariables false
set_option linter.unusedSimpArgs false
set_option maxRecDepth 100000
set_option maxHeartbeats 8000000
section
namespace Go.Proofs.YtjdbdmhjakfldaaGreat
open Go Go.Bv
theorem w162 : Tryz.f162.body.map (Qr C) = some (.q (.R [.n 10 (.move t1), .n 8 (.assign t10)]) (.b 0 (.l (.b 1 (.q (.R [.n 11 (.move t8), .n 12 (.binOp .mul 3 (.const (.int .i64 2)) t11 3), .n 13 (.binOp .add 3 t12 (.const (.int .i64 1)) 3), .n 9 (.assign t13)]) (.q (.q (.R [.n 14 (.move t9), .n 15 (.move t2), .n 16 (.binOp .geq 3 t14 t15 3)]) (.c t16 (.x 0) .s)) (.q (.q (.D true [.n 17 (.move t9), .n 18 (.binOp .add 3 t17 (.const (.int .i64 1)) 3), .n 19 (.move t2), .n 20 (.binOp .lss 3 t18 t19 3), .n 21 (.move t20), .g (some 22) (.move t0) 21 true, .g (some 23) (.move t3) 21 true, .g (some 24) (.move t9) 21 true, .g (some 25) (.binOp .add 3 t23 t24 3) 21 true, .g (some 26) (.indexAddr 22 t22 t25) 21 true, .g (some 27) (.load 3 t26) 21 true, .g (some 28) (.move t0) 21 true, .g (some 29) (.move t3) 21 true, .g (some 30) (.move t9) 21 true, .g (some 31) (.binOp .add 3 t29 t30 3) 21 true, .g (some 32) (.binOp .add 3 t31 (.const (.int .i64 1)) 3) 21 true, .g (some 33) (.indexAddr 22 t28 t32) 21 true, .g (some 34) (.load 3 t33) 21 true, .g (some 35) (.call ⟨.value (.func 150), #[t27, t34], #[3, 3]⟩) 21 true, .n 36 (.pick t21 t35 (.const (.bool false)))]) (.c t36 (.R [.n 37 (.move t9), .n 38 (.binOp .add 3 t37 (.const (.int .i64 1)) 3), .n 9 (.assign t38)]) .s)) (.q (.q (.D true [.n 39 (.move t0), .n 40 (.move t3), .n 41 (.move t8), .n 42 (.binOp .add 3 t40 t41 3), .n 43 (.indexAddr 22 t39 t42), .n 44 (.load 3 t43), .n 45 (.move t0), .n 46 (.move t3), .n 47 (.move t9), .n 48 (.binOp .add 3 t46 t47 3), .n 49 (.indexAddr 22 t45 t48), .n 50 (.load 3 t49), .n 51 (.call ⟨.value (.func 150), #[t44, t50], #[3, 3]⟩), .n 52 (.unOp .not 4 t51)]) (.c t52 .r .s)) (.q (.D true [.n 53 (.move t0), .n 54 (.move t3), .n 55 (.move t8), .n 56 (.binOp .add 3 t54 t55 3), .n 57 (.move t0), .n 58 (.move t3), .n 59 (.move t9), .n 60 (.binOp .add 3 t58 t59 3), .n 61 (.move t0), .n 62 (.move t3), .n 63 (.move t9), .n 64 (.binOp .add 3 t62 t63 3), .n 65 (.indexAddr 22 t61 t64), .n 66 (.load 3 t65), .n 67 (.move t0), .n 68 (.move t3), .n 69 (.move t8), .n 70 (.binOp .add 3 t68 t69 3), .n 71 (.indexAddr 22 t67 t70), .n 72 (.load 3 t71), .n 73 (.indexAddr 22 t53 t56), .z (.store 3 t73 t66), .n 74 (.indexAddr 22 t57 t60), .z (.store 3 t74 t72)]) (.R [.n 75 (.move t9), .n 8 (.assign t75)])))))))))) := by kernel_rfl
theorem w145 : Tryz.f145.body.map (Qr C) = some (.q (.R [.n 11 (.move t1), .n 6 (.assign t11)]) (.q (.R [.n 7 (.assign (.const (.int .i64 0)))]) (.q (.R [.n 12 (.move t2), .n 13 (.move t1), .n 14 (.binOp .sub 3 t12 t13 3), .n 8 (.assign t14)]) (.q (.q (.R [.n 15 (.move t8), .n 16 (.binOp .sub 3 t15 (.const (.int .i64 1)) 3), .n 17 (.binOp .quo 3 t16 (.const (.int .i64 2)) 3), .n 9 (.assign t17)]) (.b 0 (.l (.q (.q (.R [.n 18 (.move t9), .n 19 (.binOp .geq 3 t18 (.const (.int .i64 0)) 3)]) (.c t19 .s (.x 0))) (.q (.b 1 (.R [.n 22 (.move t0), .n 23 (.move t9), .n 24 (.move t8), .n 25 (.move t6), .n 26 (.call ⟨.value (.func 162), #[t22, t23, t24, t25], #[22, 3, 3, 3]⟩)])) (.R [.n 20 (.move t9), .n 21 (.binOp .sub 3 t20 (.const (.int .i64 1)) 3), .n 9 (.assign t21)])))))) (.q (.R [.n 27 (.move t8), .n 28 (.binOp .sub 3 t27 (.const (.int .i64 1)) 3), .n 10 (.assign t28)]) (.b 2 (.l (.q (.q (.R [.n 29 (.move t10), .n 30 (.binOp .geq 3 t29 (.const (.int .i64 0)) 3)]) (.c t30 .s (.x 2))) (.q (.b 3 (.q (.D true [.n 33 (.move t0), .n 34 (.move t6), .n 35 (.move t0), .n 36 (.move t6), .n 37 (.move t10), .n 38 (.binOp .add 3 t36 t37 3), .n 39 (.move t0), .n 40 (.move t6), .n 41 (.move t10), .n 42 (.binOp .add 3 t40 t41 3), .n 43 (.indexAddr 22 t39 t42), .n 44 (.load 3 t43), .n 45 (.move t0), .n 46 (.move t6), .n 47 (.indexAddr 22 t45 t46), .n 48 (.load 3 t47), .n 49 (.indexAddr 22 t33 t34), .z (.store 3 t49 t44), .n 50 (.indexAddr 22 t35 t38), .z (.store 3 t50 t48)]) (.R [.n 51 (.move t0), .n 52 (.move t7), .n 53 (.move t10), .n 54 (.move t6), .n 55 (.call ⟨.value (.func 162), #[t51, t52, t53, t54], #[22, 3, 3, 3]⟩)]))) (.R [.n 31 (.move t10), .n 32 (.binOp .sub 3 t31 (.const (.int .i64 1)) 3), .n 10 (.assign t32)])))))))))) := by kernel_rfl
theorem w146 : Tryz.f146.body.map (Qr C) = some (.q (.R [.n 11 (.move t2), .n 12 (.move t1), .n 13 (.binOp .sub 3 t11 t12 3), .n 6 (.assign t13)]) (.q (.R [.n 14 (.move t6), .n 15 (.binOp .geq 3 t14 (.const (.int .i64 8)) 3)]) (.c t15 (.q (.R [.n 16 (.move t6), .n 17 (.convert 3 183 t16), .n 7 (.alloc 183), .z (.store 183 t7 t17)]) (.q (.R [.n 18 (.move t6), .n 19 (.call ⟨.value (.func 163), #[t18], #[3]⟩), .n 8 (.assign t19)]) (.q (.R [.n 20 (.move t1), .n 21 (.move t6), .n 22 (.binOp .quo 3 t21 (.const (.int .i64 4)) 3), .n 23 (.binOp .mul 3 t22 (.const (.int .i64 2)) 3), .n 24 (.binOp .add 3 t20 t23 3), .n 25 (.binOp .sub 3 t24 (.const (.int .i64 1)) 3), .n 9 (.assign t25)]) (.b 0 (.l (.q (.q (.R [.n 26 (.move t9), .n 27 (.move t1), .n 28 (.move t6), .n 29 (.binOp .quo 3 t28 (.const (.int .i64 4)) 3), .n 30 (.binOp .mul 3 t29 (.const (.int .i64 2)) 3), .n 31 (.binOp .add 3 t27 t30 3), .n 32 (.binOp .add 3 t31 (.const (.int .i64 1)) 3), .n 33 (.binOp .leq 3 t26 t32 3)]) (.c t33 .s (.x 0))) (.q (.b 1 (.q (.R [.n 36 (.call ⟨.value (.func 164), #[t7], #[183]⟩), .n 37 (.move t8), .n 38 (.binOp .sub 154 t37 (.const (.int .u64 1)) 154), .n 39 (.binOp .and 154 t36 t38 154), .n 40 (.convert 154 3 t39), .n 10 (.assign t40)]) (.q (.q (.R [.n 41 (.move t10), .n 42 (.move t6), .n 43 (.binOp .geq 3 t41 t42 3)]) (.c t43 (.R [.n 44 (.move t10), .n 45 (.move t6), .n 46 (.binOp .sub 3 t44 t45 3), .n 10 (.assign t46)]) .s)) (.D true [.n 47 (.move t0), .n 48 (.move t9), .n 49 (.move t0), .n 50 (.move t1), .n 51 (.move t10), .n 52 (.binOp .add 3 t50 t51 3), .n 53 (.move t0), .n 54 (.move t1), .n 55 (.move t10), .n 56 (.binOp .add 3 t54 t55 3), .n 57 (.indexAddr 22 t53 t56), .n 58 (.load 3 t57), .n 59 (.move t0), .n 60 (.move t9), .n 61 (.indexAddr 22 t59 t60), .n 62 (.load 3 t61), .n 63 (.indexAddr 22 t47 t48), .z (.store 3 t63 t58), .n 64 (.indexAddr 22 t49 t52), .z (.store 3 t64 t62)])))) (.R [.n 34 (.move t9), .n 35 (.binOp .add 3 t34 (.const (.int .i64 1)) 3), .n 9 (.assign t35)])))))))) .s))) := by kernel_rfl
theorem w147 : Tryz.f147.body.map (Qr C) = some (.q (.R [.n 6 (.assign (.const (.int .i64 0))), .n 7 (.assign (.const (.int .i64 0)))]) (.q (.R [.n 13 (.move t2), .n 14 (.move t1), .n 15 (.binOp .sub 3 t13 t14 3), .n 8 (.assign t15)]) (.q (.R [.n 9 (.alloc 3)]) (.q (.R [.n 16 (.move t1), .n 17 (.move t8), .n 18 (.binOp .quo 3 t17 (.const (.int .i64 4)) 3), .n 19 (.binOp .mul 3 t18 (.const (.int .i64 1)) 3), .n 20 (.binOp .add 3 t16 t19 3), .n 10 (.assign t20)]) (.q (.R [.n 21 (.move t1), .n 22 (.move t8), .n 23 (.binOp .quo 3 t22 (.const (.int .i64 4)) 3), .n 24 (.binOp .mul 3 t23 (.const (.int .i64 2)) 3), .n 25 (.binOp .add 3 t21 t24 3), .n 11 (.assign t25)]) (.q (.R [.n 26 (.move t1), .n 27 (.move t8), .n 28 (.binOp .quo 3 t27 (.const (.int .i64 4)) 3), .n 29 (.binOp .mul 3 t28 (.const (.int .i64 3)) 3), .n 30 (.binOp .add 3 t26 t29 3), .n 12 (.assign t30)]) (.q (.q (.R [.n 31 (.move t8), .n 32 (.binOp .geq 3 t31 (.const (.int .i64 8)) 3)]) (.c t32 (.q (.q (.R [.n 33 (.move t8), .n 34 (.binOp .geq 3 t33 (.const (.int .i64 50)) 3)]) (.c t34 (.q (.R [.n 35 (.move t0), .n 36 (.move t10), .n 37 (.call ⟨.value (.func 165), #[t35, t36, t9], #[22, 3, 187]⟩), .n 10 (.assign t37)]) (.q (.R [.n 38 (.move t0), .n 39 (.move t11), .n 40 (.call ⟨.value (.func 165), #[t38, t39, t9], #[22, 3, 187]⟩), .n 11 (.assign t40)]) (.R [.n 41 (.move t0), .n 42 (.move t12), .n 43 (.call ⟨.value (.func 165), #[t41, t42, t9], #[22, 3, 187]⟩), .n 12 (.assign t43)]))) .s)) (.R [.n 44 (.move t0), .n 45 (.move t10), .n 46 (.move t11), .n 47 (.move t12), .n 48 (.call ⟨.value (.func 166), #[t44, t45, t46, t47, t9], #[22, 3, 3, 3, 187]⟩), .n 11 (.assign t48)])) .s)) (.q (.R [.n 49 (.load 3 t9)]) (.b 0 (.q (.R [.n 52 (.binOp .eql 3 t49 (.const (.int .i64 0)) 3), .n 51 (.assign t52)]) (.c t51 (.q (.R [.n 53 (.move t11), .n 6 (.assign t53), .n 7 (.assign (.const (.int .i64 1)))]) .r) (.q (.R [.n 55 (.binOp .eql 3 t49 (.const (.int .i64 12)) 3), .n 54 (.assign t55)]) (.c t54 (.q (.R [.n 56 (.move t11), .n 6 (.assign t56), .n 7 (.assign (.const (.int .i64 2)))]) .r) (.q (.R [.n 50 (.move t11), .n 6 (.assign t50), .n 7 (.assign (.const (.int .i64 0)))]) .r)))))))))))))) := by kernel_rfl
theorem w148 : Tryz.f148.body.map (Qr C) = some (.q (.R [.n 8 (.move t1), .n 6 (.assign t8)]) (.q (.R [.n 9 (.move t2), .n 10 (.binOp .sub 3 t9 (.const (.int .i64 1)) 3), .n 7 (.assign t10)]) (.b 0 (.l (.q (.q (.R [.n 11 (.move t6), .n 12 (.move t7), .n 13 (.binOp .lss 3 t11 t12 3)]) (.c t13 .s (.x 0))) (.b 1 (.q (.D true [.n 14 (.move t0), .n 15 (.move t6), .n 16 (.move t0), .n 17 (.move t7), .n 18 (.move t0), .n 19 (.move t7), .n 20 (.indexAddr 22 t18 t19), .n 21 (.load 3 t20), .n 22 (.move t0), .n 23 (.move t6), .n 24 (.indexAddr 22 t22 t23), .n 25 (.load 3 t24), .n 26 (.indexAddr 22 t14 t15), .z (.store 3 t26 t21), .n 27 (.indexAddr 22 t16 t17), .z (.store 3 t27 t25)]) (.q (.R [.n 28 (.move t6), .n 29 (.binOp .add 3 t28 (.const (.int .i64 1)) 3), .n 6 (.assign t29)]) (.R [.n 30 (.move t7), .n 31 (.binOp .sub 3 t30 (.const (.int .i64 1)) 3), .n 7 (.assign t31)]))))))))) := by kernel_rfl
theorem w149 : Tryz.f149.body.map (Qr C) = some (.q (.R [.n 6 (.assign (.const (.bool false)))]) (.q (.R [.n 11 (.move t1), .n 12 (.binOp .add 3 t11 (.const (.int .i64 1)) 3), .n 7 (.assign t12)]) (.q (.q (.R [.n 8 (.assign (.const (.int .i64 0)))]) (.b 0 (.l (.q (.q (.R [.n 13 (.move t8), .n 14 (.binOp .lss 3 t13 (.const (.int .i64 5)) 3)]) (.c t14 .s (.x 0))) (.q (.b 1 (.q (.b 2 (.l (.q (.q (.D true [.n 17 (.move t7), .n 18 (.move t2), .n 19 (.binOp .lss 3 t17 t18 3), .n 20 (.move t19), .g (some 21) (.move t0) 20 true, .g (some 22) (.move t7) 20 true, .g (some 23) (.indexAddr 22 t21 t22) 20 true, .g (some 24) (.load 3 t23) 20 true, .g (some 25) (.move t0) 20 true, .g (some 26) (.move t7) 20 true, .g (some 27) (.binOp .sub 3 t26 (.const (.int .i64 1)) 3) 20 true, .g (some 28) (.indexAddr 22 t25 t27) 20 true, .g (some 29) (.load 3 t28) 20 true, .g (some 30) (.call ⟨.value (.func 150), #[t24, t29], #[3, 3]⟩) 20 true, .g (some 31) (.unOp .not 4 t30) 20 true, .n 32 (.pick t20 t31 (.const (.bool false)))]) (.c t32 .s (.x 2))) (.b 3 (.R [.n 33 (.move t7), .n 34 (.binOp .add 3 t33 (.const (.int .i64 1)) 3), .n 7 (.assign t34)]))))) (.q (.q (.R [.n 35 (.move t7), .n 36 (.move t2), .n 37 (.binOp .eql 3 t35 t36 3)]) (.c t37 (.q (.R [.n 6 (.assign (.const (.bool true)))]) .r) .s)) (.q (.q (.R [.n 38 (.move t2), .n 39 (.move t1), .n 40 (.binOp .sub 3 t38 t39 3), .n 41 (.binOp .lss 3 t40 (.const (.int .i64 50)) 3)]) (.c t41 (.q (.R [.n 6 (.assign (.const (.bool false)))]) .r) .s)) (.q (.D true [.n 42 (.move t0), .n 43 (.move t7), .n 44 (.move t0), .n 45 (.move t7), .n 46 (.binOp .sub 3 t45 (.const (.int .i64 1)) 3), .n 47 (.move t0), .n 48 (.move t7), .n 49 (.binOp .sub 3 t48 (.const (.int .i64 1)) 3), .n 50 (.indexAddr 22 t47 t49), .n 51 (.load 3 t50), .n 52 (.move t0), .n 53 (.move t7), .n 54 (.indexAddr 22 t52 t53), .n 55 (.load 3 t54), .n 56 (.indexAddr 22 t42 t43), .z (.store 3 t56 t51), .n 57 (.indexAddr 22 t44 t46), .z (.store 3 t57 t55)]) (.q (.q (.R [.n 58 (.move t7), .n 59 (.move t1), .n 60 (.binOp .sub 3 t58 t59 3), .n 61 (.binOp .geq 3 t60 (.const (.int .i64 2)) 3)]) (.c t61 (.q (.R [.n 62 (.move t7), .n 63 (.binOp .sub 3 t62 (.const (.int .i64 1)) 3), .n 9 (.assign t63)]) (.b 4 (.l (.q (.q (.R [.n 64 (.move t9), .n 65 (.binOp .geq 3 t64 (.const (.int .i64 1)) 3)]) (.c t65 .s (.x 4))) (.q (.b 5 (.q (.q (.D true [.n 68 (.move t0), .n 69 (.move t9), .n 70 (.indexAddr 22 t68 t69), .n 71 (.load 3 t70), .n 72 (.move t0), .n 73 (.move t9), .n 74 (.binOp .sub 3 t73 (.const (.int .i64 1)) 3), .n 75 (.indexAddr 22 t72 t74), .n 76 (.load 3 t75), .n 77 (.call ⟨.value (.func 150), #[t71, t76], #[3, 3]⟩), .n 78 (.unOp .not 4 t77)]) (.c t78 (.x 4) .s)) (.D true [.n 79 (.move t0), .n 80 (.move t9), .n 81 (.move t0), .n 82 (.move t9), .n 83 (.binOp .sub 3 t82 (.const (.int .i64 1)) 3), .n 84 (.move t0), .n 85 (.move t9), .n 86 (.binOp .sub 3 t85 (.const (.int .i64 1)) 3), .n 87 (.indexAddr 22 t84 t86), .n 88 (.load 3 t87), .n 89 (.move t0), .n 90 (.move t9), .n 91 (.indexAddr 22 t89 t90), .n 92 (.load 3 t91), .n 93 (.indexAddr 22 t79 t80), .z (.store 3 t93 t88), .n 94 (.indexAddr 22 t81 t83), .z (.store 3 t94 t92)]))) (.R [.n 66 (.move t9), .n 67 (.binOp .sub 3 t66 (.const (.int .i64 1)) 3), .n 9 (.assign t67)])))))) .s)) (.q (.R [.n 95 (.move t2), .n 96 (.move t7), .n 97 (.binOp .sub 3 t95 t96 3), .n 98 (.binOp .geq 3 t97 (.const (.int .i64 2)) 3)]) (.c t98 (.q (.R [.n 99 (.move t7), .n 100 (.binOp .add 3 t99 (.const (.int .i64 1)) 3), .n 10 (.assign t100)]) (.b 6 (.l (.q (.q (.R [.n 101 (.move t10), .n 102 (.move t2), .n 103 (.binOp .lss 3 t101 t102 3)]) (.c t103 .s (.x 6))) (.q (.b 7 (.q (.q (.D true [.n 106 (.move t0), .n 107 (.move t10), .n 108 (.indexAddr 22 t106 t107), .n 109 (.load 3 t108), .n 110 (.move t0), .n 111 (.move t10), .n 112 (.binOp .sub 3 t111 (.const (.int .i64 1)) 3), .n 113 (.indexAddr 22 t110 t112), .n 114 (.load 3 t113), .n 115 (.call ⟨.value (.func 150), #[t109, t114], #[3, 3]⟩), .n 116 (.unOp .not 4 t115)]) (.c t116 (.x 6) .s)) (.D true [.n 117 (.move t0), .n 118 (.move t10), .n 119 (.move t0), .n 120 (.move t10), .n 121 (.binOp .sub 3 t120 (.const (.int .i64 1)) 3), .n 122 (.move t0), .n 123 (.move t10), .n 124 (.binOp .sub 3 t123 (.const (.int .i64 1)) 3), .n 125 (.indexAddr 22 t122 t124), .n 126 (.load 3 t125), .n 127 (.move t0), .n 128 (.move t10), .n 129 (.indexAddr 22 t127 t128), .n 130 (.load 3 t129), .n 131 (.indexAddr 22 t117 t118), .z (.store 3 t131 t126), .n 132 (.indexAddr 22 t119 t121), .z (.store 3 t132 t130)]))) (.R [.n 104 (.move t10), .n 105 (.binOp .add 3 t104 (.const (.int .i64 1)) 3), .n 10 (.assign t105)])))))) .s)))))))) (.R [.n 15 (.move t8), .n 16 (.binOp .add 3 t15 (.const (.int .i64 1)) 3), .n 8 (.assign t16)])))))) (.q (.R [.n 6 (.assign (.const (.bool false)))]) .r)))) := by kernel_rfl
theorem w151 : Tryz.f151.body.map (Qr C) = some (.q (.R [.n 8 (.assign (.const (.int .i64 0)))]) (.q (.D true [.n 11 (.move t0), .n 12 (.move t1), .n 13 (.move t0), .n 14 (.move t3), .n 15 (.move t0), .n 16 (.move t3), .n 17 (.indexAddr 22 t15 t16), .n 18 (.load 3 t17), .n 19 (.move t0), .n 20 (.move t1), .n 21 (.indexAddr 22 t19 t20), .n 22 (.load 3 t21), .n 23 (.indexAddr 22 t11 t12), .z (.store 3 t23 t18), .n 24 (.indexAddr 22 t13 t14), .z (.store 3 t24 t22)]) (.q (.R [.n 25 (.move t1), .n 26 (.binOp .add 3 t25 (.const (.int .i64 1)) 3), .n 27 (.move t2), .n 28 (.binOp .sub 3 t27 (.const (.int .i64 1)) 3), .n 9 (.assign t26), .n 10 (.assign t28)]) (.q (.b 0 (.l (.b 1 (.q (.b 2 (.l (.q (.q (.D true [.n 29 (.move t9), .n 30 (.move t10), .n 31 (.binOp .leq 3 t29 t30 3), .n 32 (.move t31), .g (some 33) (.move t0) 32 true, .g (some 34) (.move t1) 32 true, .g (some 35) (.indexAddr 22 t33 t34) 32 true, .g (some 36) (.load 3 t35) 32 true, .g (some 37) (.move t0) 32 true, .g (some 38) (.move t9) 32 true, .g (some 39) (.indexAddr 22 t37 t38) 32 true, .g (some 40) (.load 3 t39) 32 true, .g (some 41) (.call ⟨.value (.func 150), #[t36, t40], #[3, 3]⟩) 32 true, .g (some 42) (.unOp .not 4 t41) 32 true, .n 43 (.pick t32 t42 (.const (.bool false)))]) (.c t43 .s (.x 2))) (.b 3 (.R [.n 44 (.move t9), .n 45 (.binOp .add 3 t44 (.const (.int .i64 1)) 3), .n 9 (.assign t45)]))))) (.q (.b 4 (.l (.q (.q (.D true [.n 46 (.move t9), .n 47 (.move t10), .n 48 (.binOp .leq 3 t46 t47 3), .n 49 (.move t48), .g (some 50) (.move t0) 49 true, .g (some 51) (.move t1) 49 true, .g (some 52) (.indexAddr 22 t50 t51) 49 true, .g (some 53) (.load 3 t52) 49 true, .g (some 54) (.move t0) 49 true, .g (some 55) (.move t10) 49 true, .g (some 56) (.indexAddr 22 t54 t55) 49 true, .g (some 57) (.load 3 t56) 49 true, .g (some 58) (.call ⟨.value (.func 150), #[t53, t57], #[3, 3]⟩) 49 true, .n 59 (.pick t49 t58 (.const (.bool false)))]) (.c t59 .s (.x 4))) (.b 5 (.R [.n 60 (.move t10), .n 61 (.binOp .sub 3 t60 (.const (.int .i64 1)) 3), .n 10 (.assign t61)]))))) (.q (.q (.R [.n 62 (.move t9), .n 63 (.move t10), .n 64 (.binOp .gtr 3 t62 t63 3)]) (.c t64 (.x 0) .s)) (.q (.D true [.n 65 (.move t0), .n 66 (.move t9), .n 67 (.move t0), .n 68 (.move t10), .n 69 (.move t0), .n 70 (.move t10), .n 71 (.indexAddr 22 t69 t70), .n 72 (.load 3 t71), .n 73 (.move t0), .n 74 (.move t9), .n 75 (.indexAddr 22 t73 t74), .n 76 (.load 3 t75), .n 77 (.indexAddr 22 t65 t66), .z (.store 3 t77 t72), .n 78 (.indexAddr 22 t67 t68), .z (.store 3 t78 t76)]) (.q (.R [.n 79 (.move t9), .n 80 (.binOp .add 3 t79 (.const (.int .i64 1)) 3), .n 9 (.assign t80)]) (.R [.n 81 (.move t10), .n 82 (.binOp .sub 3 t81 (.const (.int .i64 1)) 3), .n 10 (.assign t82)]))))))))) (.q (.R [.n 83 (.move t9), .n 8 (.assign t83)]) .r))))) := by kernel_rfl
theorem w152 : Tryz.f152.body.map (Qr C) = some (.q (.R [.n 8 (.assign (.const (.int .i64 0))), .n 9 (.assign (.const (.bool false)))]) (.q (.D true [.n 12 (.move t0), .n 13 (.move t1), .n 14 (.move t0), .n 15 (.move t3), .n 16 (.move t0), .n 17 (.move t3), .n 18 (.indexAddr 22 t16 t17), .n 19 (.load 3 t18), .n 20 (.move t0), .n 21 (.move t1), .n 22 (.indexAddr 22 t20 t21), .n 23 (.load 3 t22), .n 24 (.indexAddr 22 t12 t13), .z (.store 3 t24 t19), .n 25 (.indexAddr 22 t14 t15), .z (.store 3 t25 t23)]) (.q (.R [.n 26 (.move t1), .n 27 (.binOp .add 3 t26 (.const (.int .i64 1)) 3), .n 28 (.move t2), .n 29 (.binOp .sub 3 t28 (.const (.int .i64 1)) 3), .n 10 (.assign t27), .n 11 (.assign t29)]) (.q (.b 0 (.l (.q (.q (.D true [.n 30 (.move t10), .n 31 (.move t11), .n 32 (.binOp .leq 3 t30 t31 3), .n 33 (.move t32), .g (some 34) (.move t0) 33 true, .g (some 35) (.move t10) 33 true, .g (some 36) (.indexAddr 22 t34 t35) 33 true, .g (some 37) (.load 3 t36) 33 true, .g (some 38) (.move t0) 33 true, .g (some 39) (.move t1) 33 true, .g (some 40) (.indexAddr 22 t38 t39) 33 true, .g (some 41) (.load 3 t40) 33 true, .g (some 42) (.call ⟨.value (.func 150), #[t37, t41], #[3, 3]⟩) 33 true, .n 43 (.pick t33 t42 (.const (.bool false)))]) (.c t43 .s (.x 0))) (.b 1 (.R [.n 44 (.move t10), .n 45 (.binOp .add 3 t44 (.const (.int .i64 1)) 3), .n 10 (.assign t45)]))))) (.q (.b 2 (.l (.q (.q (.D true [.n 46 (.move t10), .n 47 (.move t11), .n 48 (.binOp .leq 3 t46 t47 3), .n 49 (.move t48), .g (some 50) (.move t0) 49 true, .g (some 51) (.move t11) 49 true, .g (some 52) (.indexAddr 22 t50 t51) 49 true, .g (some 53) (.load 3 t52) 49 true, .g (some 54) (.move t0) 49 true, .g (some 55) (.move t1) 49 true, .g (some 56) (.indexAddr 22 t54 t55) 49 true, .g (some 57) (.load 3 t56) 49 true, .g (some 58) (.call ⟨.value (.func 150), #[t53, t57], #[3, 3]⟩) 49 true, .g (some 59) (.unOp .not 4 t58) 49 true, .n 60 (.pick t49 t59 (.const (.bool false)))]) (.c t60 .s (.x 2))) (.b 3 (.R [.n 61 (.move t11), .n 62 (.binOp .sub 3 t61 (.const (.int .i64 1)) 3), .n 11 (.assign t62)]))))) (.q (.q (.R [.n 63 (.move t10), .n 64 (.move t11), .n 65 (.binOp .gtr 3 t63 t64 3)]) (.c t65 (.q (.D true [.n 66 (.move t0), .n 67 (.move t11), .n 68 (.move t0), .n 69 (.move t1), .n 70 (.move t0), .n 71 (.move t1), .n 72 (.indexAddr 22 t70 t71), .n 73 (.load 3 t72), .n 74 (.move t0), .n 75 (.move t11), .n 76 (.indexAddr 22 t74 t75), .n 77 (.load 3 t76), .n 78 (.indexAddr 22 t66 t67), .z (.store 3 t78 t73), .n 79 (.indexAddr 22 t68 t69), .z (.store 3 t79 t77)]) (.q (.R [.n 80 (.move t11), .n 8 (.assign t80), .n 9 (.assign (.const (.bool true)))]) .r)) .s)) (.q (.D true [.n 81 (.move t0), .n 82 (.move t10), .n 83 (.move t0), .n 84 (.move t11), .n 85 (.move t0), .n 86 (.move t11), .n 87 (.indexAddr 22 t85 t86), .n 88 (.load 3 t87), .n 89 (.move t0), .n 90 (.move t10), .n 91 (.indexAddr 22 t89 t90), .n 92 (.load 3 t91), .n 93 (.indexAddr 22 t81 t82), .z (.store 3 t93 t88), .n 94 (.indexAddr 22 t83 t84), .z (.store 3 t94 t92)]) (.q (.R [.n 95 (.move t10), .n 96 (.binOp .add 3 t95 (.const (.int .i64 1)) 3), .n 10 (.assign t96)]) (.q (.R [.n 97 (.move t11), .n 98 (.binOp .sub 3 t97 (.const (.int .i64 1)) 3), .n 11 (.assign t98)]) (.q (.b 4 (.l (.b 5 (.q (.b 6 (.l (.q (.q (.D true [.n 99 (.move t10), .n 100 (.move t11), .n 101 (.binOp .leq 3 t99 t100 3), .n 102 (.move t101), .g (some 103) (.move t0) 102 true, .g (some 104) (.move t10) 102 true, .g (some 105) (.indexAddr 22 t103 t104) 102 true, .g (some 106) (.load 3 t105) 102 true, .g (some 107) (.move t0) 102 true, .g (some 108) (.move t1) 102 true, .g (some 109) (.indexAddr 22 t107 t108) 102 true, .g (some 110) (.load 3 t109) 102 true, .g (some 111) (.call ⟨.value (.func 150), #[t106, t110], #[3, 3]⟩) 102 true, .n 112 (.pick t102 t111 (.const (.bool false)))]) (.c t112 .s (.x 6))) (.b 7 (.R [.n 113 (.move t10), .n 114 (.binOp .add 3 t113 (.const (.int .i64 1)) 3), .n 10 (.assign t114)]))))) (.q (.b 8 (.l (.q (.q (.D true [.n 115 (.move t10), .n 116 (.move t11), .n 117 (.binOp .leq 3 t115 t116 3), .n 118 (.move t117), .g (some 119) (.move t0) 118 true, .g (some 120) (.move t11) 118 true, .g (some 121) (.indexAddr 22 t119 t120) 118 true, .g (some 122) (.load 3 t121) 118 true, .g (some 123) (.move t0) 118 true, .g (some 124) (.move t1) 118 true, .g (some 125) (.indexAddr 22 t123 t124) 118 true, .g (some 126) (.load 3 t125) 118 true, .g (some 127) (.call ⟨.value (.func 150), #[t122, t126], #[3, 3]⟩) 118 true, .g (some 128) (.unOp .not 4 t127) 118 true, .n 129 (.pick t118 t128 (.const (.bool false)))]) (.c t129 .s (.x 8))) (.b 9 (.R [.n 130 (.move t11), .n 131 (.binOp .sub 3 t130 (.const (.int .i64 1)) 3), .n 11 (.assign t131)]))))) (.q (.q (.R [.n 132 (.move t10), .n 133 (.move t11), .n 134 (.binOp .gtr 3 t132 t133 3)]) (.c t134 (.x 4) .s)) (.q (.D true [.n 135 (.move t0), .n 136 (.move t10), .n 137 (.move t0), .n 138 (.move t11), .n 139 (.move t0), .n 140 (.move t11), .n 141 (.indexAddr 22 t139 t140), .n 142 (.load 3 t141), .n 143 (.move t0), .n 144 (.move t10), .n 145 (.indexAddr 22 t143 t144), .n 146 (.load 3 t145), .n 147 (.indexAddr 22 t135 t136), .z (.store 3 t147 t142), .n 148 (.indexAddr 22 t137 t138), .z (.store 3 t148 t146)]) (.q (.R [.n 149 (.move t10), .n 150 (.binOp .add 3 t149 (.const (.int .i64 1)) 3), .n 10 (.assign t150)]) (.R [.n 151 (.move t11), .n 152 (.binOp .sub 3 t151 (.const (.int .i64 1)) 3), .n 11 (.assign t152)]))))))))) (.q (.D true [.n 153 (.move t0), .n 154 (.move t11), .n 155 (.move t0), .n 156 (.move t1), .n 157 (.move t0), .n 158 (.move t1), .n 159 (.indexAddr 22 t157 t158), .n 160 (.load 3 t159), .n 161 (.move t0), .n 162 (.move t11), .n 163 (.indexAddr 22 t161 t162), .n 164 (.load 3 t163), .n 165 (.indexAddr 22 t153 t154), .z (.store 3 t165 t160), .n 166 (.indexAddr 22 t155 t156), .z (.store 3 t166 t164)]) (.q (.R [.n 167 (.move t11), .n 8 (.assign t167), .n 9 (.assign (.const (.bool false)))]) .r)))))))))))) := by kernel_rfl
theorem w163 : Tryz.f163.body.map (Qr C) = some (.q (.R [.n 2 (.assign (.const (.int .u64 0)))]) (.q (.R [.n 3 (.move t0), .n 4 (.convert 3 154 t3), .n 5 (.call ⟨.value (.func 125), #[t4], #[154]⟩), .n 6 (.binOp .shl 154 (.const (.int .u64 1)) t5 3), .n 2 (.assign t6)]) .r)) := by kernel_rfl
theorem w164 : Tryz.f164.body.map (Qr C) = some (.q (.R [.n 2 (.assign (.const (.int .u64 0)))]) (.q (.D true [.n 3 (.move t0), .n 4 (.nilCheck t3), .n 5 (.load 183 t4), .n 6 (.move t0), .n 7 (.nilCheck t6), .n 8 (.load 183 t7), .n 9 (.binOp .shl 183 t8 (.const (.int .u64 13)) 154), .n 10 (.binOp .xor 183 t5 t9 183), .n 11 (.nilCheck t3), .z (.store 183 t11 t10)]) (.q (.D true [.n 12 (.move t0), .n 13 (.nilCheck t12), .n 14 (.load 183 t13), .n 15 (.move t0), .n 16 (.nilCheck t15), .n 17 (.load 183 t16), .n 18 (.binOp .shr 183 t17 (.const (.int .u64 7)) 154), .n 19 (.binOp .xor 183 t14 t18 183), .n 20 (.nilCheck t12), .z (.store 183 t20 t19)]) (.q (.D true [.n 21 (.move t0), .n 22 (.nilCheck t21), .n 23 (.load 183 t22), .n 24 (.move t0), .n 25 (.nilCheck t24), .n 26 (.load 183 t25), .n 27 (.binOp .shl 183 t26 (.const (.int .u64 17)) 154), .n 28 (.binOp .xor 183 t23 t27 183), .n 29 (.nilCheck t21), .z (.store 183 t29 t28)]) (.q (.R [.n 30 (.move t0), .n 31 (.nilCheck t30), .n 32 (.load 183 t31), .n 2 (.assign t32)]) .r))))) := by kernel_rfl
theorem w165 : Tryz.f165.body.map (Qr C) = some (.q (.R [.n 6 (.assign (.const (.int .i64 0)))]) (.q (.R [.n 7 (.move t0), .n 8 (.move t1), .n 9 (.binOp .sub 3 t8 (.const (.int .i64 1)) 3), .n 10 (.move t1), .n 11 (.move t1), .n 12 (.binOp .add 3 t11 (.const (.int .i64 1)) 3), .n 13 (.move t2), .n 14 (.call ⟨.value (.func 166), #[t7, t9, t10, t12, t13], #[22, 3, 3, 3, 187]⟩), .n 6 (.assign t14)]) .r)) := by kernel_rfl
theorem w166 : Tryz.f166.body.map (Qr C) = some (.q (.R [.n 10 (.assign (.const (.int .i64 0)))]) (.q (.R [.n 12 (.move t0), .n 13 (.move t1), .n 14 (.move t2), .n 15 (.move t4), .n 16 (.call ⟨.value (.func 176), #[t12, t13, t14, t15], #[22, 3, 3, 187]⟩), .n 11 (.move t16), .n 17 (.extract t11 0), .n 18 (.extract t11 1), .n 1 (.assign t17), .n 2 (.assign t18)]) (.q (.R [.n 20 (.move t0), .n 21 (.move t2), .n 22 (.move t3), .n 23 (.move t4), .n 24 (.call ⟨.value (.func 176), #[t20, t21, t22, t23], #[22, 3, 3, 187]⟩), .n 19 (.move t24), .n 25 (.extract t19 0), .n 26 (.extract t19 1), .n 2 (.assign t25), .n 3 (.assign t26)]) (.q (.R [.n 28 (.move t0), .n 29 (.move t1), .n 30 (.move t2), .n 31 (.move t4), .n 32 (.call ⟨.value (.func 176), #[t28, t29, t30, t31], #[22, 3, 3, 187]⟩), .n 27 (.move t32), .n 33 (.extract t27 0), .n 34 (.extract t27 1), .n 1 (.assign t33), .n 2 (.assign t34)]) (.q (.R [.n 35 (.move t2), .n 10 (.assign t35)]) .r))))) := by kernel_rfl
theorem w176 : Tryz.f176.body.map (Qr C) = some (.q (.R [.n 8 (.assign (.const (.int .i64 0))), .n 9 (.assign (.const (.int .i64 0)))]) (.q (.q (.D true [.n 10 (.move t0), .n 11 (.move t2), .n 12 (.indexAddr 22 t10 t11), .n 13 (.load 3 t12), .n 14 (.move t0), .n 15 (.move t1), .n 16 (.indexAddr 22 t14 t15), .n 17 (.load 3 t16), .n 18 (.call ⟨.value (.func 150), #[t13, t17], #[3, 3]⟩)]) (.c t18 (.q (.R [.n 19 (.move t3), .n 20 (.nilCheck t19), .n 21 (.load 3 t20), .n 22 (.binOp .add 3 t21 (.const (.int .i64 1)) 3), .n 23 (.nilCheck t19), .z (.store 3 t23 t22)]) (.q (.R [.n 24 (.move t2), .n 25 (.move t1), .n 8 (.assign t24), .n 9 (.assign t25)]) .r)) .s)) (.q (.R [.n 26 (.move t1), .n 27 (.move t2), .n 8 (.assign t26), .n 9 (.assign t27)]) .r))) := by kernel_rfl
def Qp : List Int → Int
 | [] => 1
 | d :: l => d * Qp l
theorem Zv : ∀ {l : List Int}, (∀ d ∈ l, 1 ≤ d) → 1 ≤ Qp l
 | [], _ => by simp [Qp]
 | d :: l, h => by
  have h1 := Zv (l := l) fun d hd => h d (by simp [hd])
  have h2 := h d (by simp)
  exact Int.mul_pos (by omega) (by omega)
theorem Qee : ∀ (l m : List Int), Qp (l ++ m) = Qp l * Qp m
 | [], m => by simp [Qp]
 | d :: l, m => by simp [Qp, Qee l m, Int.mul_assoc]
theorem Qr2 (l : List Int) (d : Int) : Qp (l ++ [d]) = Qp l * d := by rw [Qee]; simp [Qp]
theorem Zr {xs : List Int} {i : Nat} (h : i < xs.length) : Qp (xs.take (i + 1)) = Qp (xs.take i) * xs.getD i 0 := by
 rw [← Qr2]; congr 1;rw [List.take_add_one]; simp [List.getD, h]
theorem Qe4 {xs : List Int} (h : ∀ d ∈ xs, 1 ≤ d) (i : Nat) : Qp (xs.take i) ≤ Qp xs := by
 have e : Qp xs = Qp (xs.take i) * Qp (xs.drop i) := by rw [← Qee, List.take_append_drop]
 have h1 := Zv (l := xs.take i) fun d hd => h d (List.mem_of_mem_take hd)
 have h2 := Zv (l := xs.drop i) fun d hd => h d (List.mem_of_mem_drop hd)
 rw [e]
 have := Int.mul_le_mul_of_nonneg_left (c := Qp (xs.take i)) h2 (by omega)
 omega
theorem Ya {xs : List Int} (h : ∀ d ∈ xs, 1 ≤ d) {i : Nat} (hi : i < xs.length) : xs.getD i 0 ≤ Qp xs := by
 have h1 := Qe4 h (i + 1)
 rw [Zr hi] at h1
 have h2 := Zv (l := xs.take i) fun d hd => h d (List.mem_of_mem_take hd)
 have h3 : 1 ≤ xs.getD i 0 := by
  have : xs.getD i 0 = xs[i] := by simp [List.getD, hi]
  rw [this]; exact h _ (List.getElem_mem hi)
 have : 1 * xs.getD i 0 ≤ Qp (xs.take i) * xs.getD i 0 := Int.mul_le_mul_of_nonneg_right h2 (by omega)
 omega
def Yo (xs : List Int) : Int := if xs.length > 4 then 14 else if xs.all (fun d => decide (1 ≤ d)) then (if Qp xs > 1024 then 14 else 0) else 13
theorem Qkp (xs : List Int) : Yo xs = 0 ∨ Yo xs = 13 ∨ Yo xs = 14 := by unfold Yo; split <;> (try split) <;> (try split) <;> simp
theorem Xs {xs : List Int} (h : Yo xs = 0) : xs.length ≤ 4 ∧ (∀ d ∈ xs, 1 ≤ d) ∧ Qp xs ≤ 1024 := by
 unfold Yo at h;split at h
 ·simp at h
 ·split at h
  ·split at h
   ·simp at h
   ·rename_i h1 h2 h3;exact ⟨by omega, by simpa using h2, by omega⟩
  ·simp at h
def countP (xs : List Int) : Int := if Yo xs = 0 then Qp xs else 0
theorem Qaa {xs ys : List Int} (hl : xs.length = ys.length) (h : ∀ j, j < xs.length → xs.getD j 0 = ys.getD j 0) : xs = ys := by
 refine List.ext_getElem hl fun i h1 h2 => ?_
 have := h i h1
 simpa [List.getD, h1, h2] using this
theorem Jx {xs : List Int} {p : Int → Prop} : (∀ d ∈ xs, p d) ↔ ∀ j, j < xs.length → p (xs.getD j 0) := by
 constructor
 ·intro h j hj
  have e : xs.getD j 0 = xs[j] := by simp [List.getD, hj]
  rw [e]; exact h _ (List.getElem_mem hj)
 ·intro h d hd;obtain ⟨j, hj, rfl⟩ := List.mem_iff_getElem.1 hd
  have e : xs.getD j 0 = xs[j] := by simp [List.getD, hj]
  rw [← e]; exact h j hj
theorem Qlh {p : Nat → Prop} {i : Nat} (h : ∀ j, j < i → p j) (hi : p i) : ∀ j, j < i + 1 → p j := by
 intro j hj;by_cases e : j = i
 ·subst e; exact hi
 ·exact h j (by omega)
theorem Qmz (xs : List Int) (hlx : xs.length ≤ 17592186044416) : Pu C 60 [.sl xs.length (ints xs)] (.int .i64 (Yo xs)) := by
 refine Fc.keep (Fc.bodyT Qe Tryz.func60 w60 rfl Tryz.ntmps60 Tryz.results60 (zLe rfl) ?_)
 (apply Zo;repeat' ((with_reducible first|apply Zk|(first|apply Za|apply Zb|apply Zc|apply Zd)<;>intro h)<;>try simp -implicitDefEqProofs (maxSteps:=9^7) (disch:=first|omega|(simp only [Qb];omega)) only [go_sem]))
 ·skip
  (refine Qo (by intro g; simp only [go_sem, ren, Ql]) ?_)
  congr 1; symm; rw [Yo, if_pos (by omega)]
 ·skip
  refine Qf (fun n ts H => ∃ i, (i ≤ xs.length) ∧ (∀ j, j < i → 1 ≤ xs.getD j 0) ∧ (n = xs.length - i) ∧ (H = []) ∧ ts.length = 39 ∧ nth ts 0 = .sl xs.length (ints xs) ∧ nth ts 3 = .int .i64 i) ?_ (n := xs.length) ?_
  ·skip
   rintro n ts H ⟨i, hi, ha, hn, hH, hL, hs0, hs3⟩;refine Qv [(0, .sl xs.length (ints xs)), (3, .int .i64 i)] hL (by simp only [zFm, hs0, hs3, true_and]; exact zNm) ?_
   clear hL hs0 hs3 ts
   refine Qu Qe ?_;subst hH hn
   (apply Zo;repeat' ((with_reducible first|apply Zk|(first|apply Za|apply Zb|apply Zc|apply Zd)<;>intro h)<;>try simp -implicitDefEqProofs (maxSteps:=9^7) (disch:=first|omega|(simp only [Qb];omega)) only [go_sem]))
   ·skip
    (refine Qo (by intro g; simp only [go_sem, ren, Ql]) ?_)
    congr 1; symm; rw [Yo, if_neg (by omega), if_neg]
    intro hall; have := Jx.1 (by simpa using hall) i (by omega); omega
   ·exact ⟨_, by omega, i + 1, by omega, Qlh ha (by omega), rfl, (by (repeat' apply And.intro) <;> (first | rfl | omega | (congr 1; omega) | assumption | (congr 1; assumption)))⟩
   ·have hall : ∀ d ∈ xs, 1 ≤ d := Jx.2 fun j hj => ha j (by omega)
    have hall' : xs.all (fun d => decide (1 ≤ d)) = true := by simpa using hall
    refine Qf (fun n ts H => ∃ k, (k ≤ xs.length) ∧ (Qp (xs.take k) ≤ 1024) ∧ (n = xs.length - k) ∧ (H = []) ∧ ts.length = 39 ∧ nth ts 0 = .sl xs.length (ints xs) ∧ nth ts 4 = .int .i64 (Qp (xs.take k)) ∧ nth ts 5 = .int .i64 k) ?_ (n := xs.length) ?_
    ·skip
     rintro n ts H ⟨k, hk, hm, hn, hH, hL, hs0, hs4, hs5⟩;refine Qv [(0, .sl xs.length (ints xs)), (4, .int .i64 (Qp (xs.take k))), (5, .int .i64 k)] hL (by simp only [zFm, hs0, hs4, hs5, true_and]; exact zNm) ?_
     clear hL hs0 hs4 hs5 ts
     refine Qu Qe ?_;subst hH hn
     have hm1 := Zv (l := xs.take k) fun d hd => hall d (List.mem_of_mem_take hd)
     by_cases hlt : k < xs.length
     ·have hx1 := Jx.1 hall k hlt
      have hle := Ya hall hlt
      have hle2 := Qe4 hall (k + 1)
      rw [Zr hlt] at hle2;by_cases h4 : 1024 < xs.getD k 0
      ·skip
       (apply Zo;repeat' ((with_reducible first|apply Zk|(first|apply Za|apply Zb|apply Zc|apply Zd)<;>intro h)<;>try simp -implicitDefEqProofs (maxSteps:=9^7) (disch:=first|omega|(simp only [Qb];omega)) only [go_sem]))
       (refine Qo (by intro g; simp only [go_sem, ren, Ql]) ?_)
       congr 1; symm; rw [Yo, if_neg (by omega), if_pos hall', if_pos (by omega)]
      ·have hb : Qp (xs.take k) * xs.getD k 0 ≤ 1024 * 1024 := Int.mul_le_mul hm (by omega) (by omega) (by omega)
       have hb0 : 0 ≤ Qp (xs.take k) * xs.getD k 0 := Int.mul_nonneg (by omega) (by omega)
       (apply Zo;repeat' ((with_reducible first|apply Zk|(first|apply Za|apply Zb|apply Zc|apply Zd)<;>intro h)<;>try simp -implicitDefEqProofs (maxSteps:=9^7) (disch:=first|omega|(simp only [Qb];omega)) only [go_sem]))
       ·skip
        (refine Qo (by intro g; simp only [go_sem, ren, Ql]) ?_)
        congr 1; symm; rw [Yo, if_neg (by omega), if_pos hall', if_pos (by omega)]
       ·exact ⟨_, by omega, k + 1, by omega, by rw [Zr hlt]; omega, rfl, by rw [Zr hlt], rfl⟩
     ·have e : xs.take k = xs := List.take_of_length_le (by omega)
      rw [e] at hm
      (apply Zo;repeat' ((with_reducible first|apply Zk|(first|apply Za|apply Zb|apply Zc|apply Zd)<;>intro h)<;>try simp -implicitDefEqProofs (maxSteps:=9^7) (disch:=first|omega|(simp only [Qb];omega)) only [go_sem]))
      (refine Qo (by intro g; simp only [go_sem, ren, Ql]) ?_)
      congr 1; symm; rw [Yo, if_neg (by omega), if_pos hall', if_neg (by omega)]
    ·exact ⟨0, by omega, by simp [Qp], rfl, rfl, rfl, rfl, rfl, rfl⟩
  ·exact ⟨0, by omega, fun j hj => by omega, rfl, rfl, rfl, rfl, rfl⟩
theorem Qra (xs : List Int) (hlx : xs.length ≤ 17592186044416) : Pu C 61 [.sl xs.length (ints xs)] (.int .i64 (countP xs)) := by
 refine Fc.keep (Fc.bodyT Qe Tryz.func61 w61 rfl Tryz.ntmps61 Tryz.results61 (zLe rfl) ?_)
 (apply Zo;repeat' ((with_reducible first|apply Zk|(first|apply Za|apply Zb|apply Zc|apply Zd)<;>intro h)<;>try simp -implicitDefEqProofs (maxSteps:=9^7) (disch:=first|omega|(simp only [Qb];omega)) only [go_sem]))
 refine Fc.pure (Qmz xs hlx) (by simp [go_sem, Qi, clo, Qc, Qx]) (by intro g; simp only [go_sem, ren, Ql]) ?_
 (apply Zo;repeat' ((with_reducible first|apply Zk|(first|apply Za|apply Zb|apply Zc|apply Zd)<;>intro h)<;>try simp -implicitDefEqProofs (maxSteps:=9^7) (disch:=first|omega|(simp only [Qb];omega)) only [go_sem]))
 ·skip
  (refine Qo (by intro g; simp only [go_sem, ren, Ql]) ?_)
  simp only [countP, if_neg h]
 ·obtain ⟨h4, ha, hp⟩ := Xs h;refine Qf (fun n ts H => ∃ k, (k ≤ xs.length) ∧ (n = xs.length - k) ∧ (H = []) ∧ ts.length = 21 ∧ nth ts 0 = .sl xs.length (ints xs) ∧ nth ts 3 = .int .i64 (Qp (xs.take k)) ∧ nth ts 4 = .int .i64 k) ?_ (n := xs.length) ?_
  ·skip
   rintro n ts H ⟨k, hk, hn, hH, hL, hs0, hs3, hs4⟩;refine Qv [(0, .sl xs.length (ints xs)), (3, .int .i64 (Qp (xs.take k))), (4, .int .i64 k)] hL (by simp only [zFm, hs0, hs3, hs4, true_and]; exact zNm) ?_
   clear hL hs0 hs3 hs4 ts
   refine Qu Qe ?_;subst hH hn;by_cases hlt : k < xs.length
   ·have hle2 := Qe4 ha (k + 1)
    have hp2 := Zv (l := xs.take (k + 1)) fun d hd => ha d (List.mem_of_mem_take hd)
    rw [Zr hlt] at hle2 hp2
    (apply Zo;repeat' ((with_reducible first|apply Zk|(first|apply Za|apply Zb|apply Zc|apply Zd)<;>intro h)<;>try simp -implicitDefEqProofs (maxSteps:=9^7) (disch:=first|omega|(simp only [Qb];omega)) only [go_sem]))
    exact ⟨_, by omega, k + 1, by omega, rfl, by rw [Zr hlt], rfl⟩
   ·have e : xs.take k = xs := List.take_of_length_le (by omega)
    (apply Zo;repeat' ((with_reducible first|apply Zk|(first|apply Za|apply Zb|apply Zc|apply Zd)<;>intro h)<;>try simp -implicitDefEqProofs (maxSteps:=9^7) (disch:=first|omega|(simp only [Qb];omega)) only [go_sem]))
    (refine Qo (by intro g; simp only [go_sem, ren, Ql]) ?_)
    simp only [countP, if_pos h, e]
  ·exact ⟨0, by omega, rfl, rfl, rfl, rfl, rfl, rfl⟩
def Qg8 (xs : List Int) : Int := if Qp xs > 1024 then 1025 else Qp xs
theorem Qed (xs : List Int) (hx : xs.length ≤ 17592186044416) (h1 : ∀ d ∈ xs, 1 ≤ d) : Pu C 88 [.sl xs.length (ints xs)] (.int .i64 (Qg8 xs)) := by
 refine Fc.keep (Fc.bodyT Qe Tryz.func88 w88 rfl Tryz.ntmps88 Tryz.results88 (zLe rfl) ?_)
 (apply Zo;repeat' ((with_reducible first|apply Zk|(first|apply Za|apply Zb|apply Zc|apply Zd)<;>intro h)<;>try simp -implicitDefEqProofs (maxSteps:=9^7) (disch:=first|omega|(simp only [Qb];omega)) only [go_sem]))
 refine Qf (fun n ts H => ∃ k, (k ≤ xs.length) ∧ (Qp (xs.take k) ≤ 1024) ∧ (n = xs.length - k) ∧ (H = []) ∧ ts.length = 21 ∧ nth ts 3 = .int .i64 (Qp (xs.take k)) ∧ nth ts 6 = .sl xs.length (ints xs) ∧ nth ts 7 = .int .i64 xs.length ∧ nth ts 8 = .int .i64 k) ?_ (n := xs.length) ?_
 ·skip
  rintro n ts H ⟨k, hk, hm, hn, hH, hL, hs3, hs6, hs7, hs8⟩;refine Qv [(3, .int .i64 (Qp (xs.take k))), (6, .sl xs.length (ints xs)), (7, .int .i64 xs.length), (8, .int .i64 k)] hL (by simp only [zFm, hs3, hs6, hs7, hs8, true_and]; exact zNm) ?_
  clear hL hs3 hs6 hs7 hs8 ts
  refine Qu Qe ?_;subst hH hn
  have hm1 := Zv (l := xs.take k) fun d hd => h1 d (List.mem_of_mem_take hd)
  have hd0 : 0 ≤ 1024 / Qp (xs.take k) := Int.ediv_nonneg (by omega) (by omega)
  have hd1 : 1024 / Qp (xs.take k) ≤ 1024 := Int.ediv_le_self _ (by omega)
  by_cases hlt : k < xs.length
  ·have hx1 := Jx.1 h1 k hlt
   have hle2 := Qe4 h1 (k + 1)
   rw [Zr hlt] at hle2;generalize hq : xs.getD k 0 = q at hx1 hle2;by_cases hbig : 1024 < Qp (xs.take k) * q
   ·have hdiv : 1024 / Qp (xs.take k) < q := Int.ediv_lt_of_lt_mul (by omega) (by rw [Int.mul_comm]; exact hbig)
    (apply Zo;repeat' ((with_reducible first|apply Zk|(first|apply Za|apply Zb|apply Zc|apply Zd)<;>intro h)<;>try simp -implicitDefEqProofs (maxSteps:=9^7) (disch:=first|omega|(simp only [Qb];omega)) only [go_sem, hq]))
    (refine Qo (by intro g; simp only [go_sem, ren, Ql]) ?_)
    rw [Qg8, if_pos (by omega)]
   ·have hdiv : q ≤ 1024 / Qp (xs.take k) := Int.le_ediv_of_mul_le (by omega) (by rw [Int.mul_comm]; omega)
    have hpos : 0 ≤ Qp (xs.take k) * q := Int.mul_nonneg (by omega) (by omega)
    (apply Zo;repeat' ((with_reducible first|apply Zk|(first|apply Za|apply Zb|apply Zc|apply Zd)<;>intro h)<;>try simp -implicitDefEqProofs (maxSteps:=9^7) (disch:=first|omega|(simp only [Qb];omega)) only [go_sem, hq]))
    exact ⟨_, by omega, k + 1, by omega, by rw [Zr hlt, hq]; omega, rfl, by rw [Zr hlt, hq], rfl⟩
  ·have e : xs.take k = xs := List.take_of_length_le (by omega)
   rw [e] at hm
   (apply Zo;repeat' ((with_reducible first|apply Zk|(first|apply Za|apply Zb|apply Zc|apply Zd)<;>intro h)<;>try simp -implicitDefEqProofs (maxSteps:=9^7) (disch:=first|omega|(simp only [Qb];omega)) only [go_sem]))
   (refine Qo (by intro g; simp only [go_sem, ren, Ql]) ?_)
   rw [Qg8, if_neg (by omega), e]
 ·exact ⟨0, by omega, by simp [Qp], rfl, rfl, rfl, rfl, rfl, rfl, rfl⟩
theorem Qfr (xs : List Int) (hlx : xs.length ≤ 17592186044416) : Pu C 56 [.sl xs.length (ints xs)] (.int .i64 (Yo xs)) := by
 refine Fc.keep (Fc.bodyT Qe Tryz.func56 w56 rfl Tryz.ntmps56 Tryz.results56 (zLe rfl) ?_)
 (apply Zo;repeat' ((with_reducible first|apply Zk|(first|apply Za|apply Zb|apply Zc|apply Zd)<;>intro h)<;>try simp -implicitDefEqProofs (maxSteps:=9^7) (disch:=first|omega|(simp only [Qb];omega)) only [go_sem]))
 ·skip
  (refine Qo (by intro g; simp only [go_sem, ren, Ql]) ?_)
  congr 1; symm; rw [Yo, if_pos (by omega)]
 ·skip
  refine Qf (fun n ts H => ∃ i, (i ≤ xs.length) ∧ (∀ j, j < i → 1 ≤ xs.getD j 0) ∧ (n = xs.length - i) ∧ (H = []) ∧ ts.length = 20 ∧ nth ts 0 = .sl xs.length (ints xs) ∧ nth ts 8 = .sl xs.length (ints xs) ∧ nth ts 9 = .int .i64 xs.length ∧ nth ts 10 = .int .i64 i) ?_ (n := xs.length) ?_
  ·skip
   rintro n ts H ⟨i, hi, ha, hn, hH, hL, hs0, hs8, hs9, hs10⟩;refine Qv [(0, .sl xs.length (ints xs)), (8, .sl xs.length (ints xs)), (9, .int .i64 xs.length), (10, .int .i64 i)] hL (by simp only [zFm, hs0, hs8, hs9, hs10, true_and]; exact zNm) ?_
   clear hL hs0 hs8 hs9 hs10 ts
   refine Qu Qe ?_;subst hH hn
   (apply Zo;repeat' ((with_reducible first|apply Zk|(first|apply Za|apply Zb|apply Zc|apply Zd)<;>intro h)<;>try simp -implicitDefEqProofs (maxSteps:=9^7) (disch:=first|omega|(simp only [Qb];omega)) only [go_sem]))
   ·skip
    (refine Qo (by intro g; simp only [go_sem, ren, Ql]) ?_)
    congr 1; symm; rw [Yo, if_neg (by omega), if_neg]
    intro hall; have := Jx.1 (by simpa using hall) i (by omega); omega
   ·exact ⟨_, by omega, i + 1, by omega, Qlh ha (by omega), rfl, (by (repeat' apply And.intro) <;> (first | rfl | omega | (congr 1; omega) | assumption | (congr 1; assumption)))⟩
   ·have hall : ∀ d ∈ xs, 1 ≤ d := Jx.2 fun j hj => ha j (by omega)
    have hall' : xs.all (fun d => decide (1 ≤ d)) = true := by simpa using hall
    have e1 : Yo xs = if Qp xs > 1024 then 14 else 0 := by rw [Yo, if_neg (by omega), if_pos hall']
    refine Fc.pure (Qed xs hlx hall) (by simp [go_sem, Qi, clo, Qc, Qx]) (by intro g; simp only [go_sem, ren, Ql]) ?_
    have e2 : 1024 < Qg8 xs ↔ 1024 < Qp xs := by unfold Qg8; split <;> omega
    by_cases hb : 1024 < Qp xs
    ·have := e2.2 hb
     (apply Zo;repeat' ((with_reducible first|apply Zk|(first|apply Za|apply Zb|apply Zc|apply Zd)<;>intro h)<;>try simp -implicitDefEqProofs (maxSteps:=9^7) (disch:=first|omega|(simp only [Qb];omega)) only [go_sem]))
     (refine Qo (by intro g; simp only [go_sem, ren, Ql]) ?_)
     rw [e1, if_pos (by omega)]
    ·have hnb : ¬ 1024 < Qg8 xs := fun h => hb (e2.1 h)
     (apply Zo;repeat' ((with_reducible first|apply Zk|(first|apply Za|apply Zb|apply Zc|apply Zd)<;>intro h)<;>try simp -implicitDefEqProofs (maxSteps:=9^7) (disch:=first|omega|(simp only [Qb];omega)) only [go_sem]))
     (refine Qo (by intro g; simp only [go_sem, ren, Ql]) ?_)
     rw [e1, if_neg (by omega)]
  ·exact ⟨0, by omega, fun j hj => by omega, rfl, rfl, rfl, rfl, rfl, rfl, rfl⟩
theorem Qll (xs : List Int) (hlx : xs.length ≤ 17592186044416) : Pu C 92 [.sl xs.length (ints xs)] (.int .i64 (countP xs)) := by
 refine Fc.keep (Fc.bodyT Qe Tryz.func92 w92 rfl Tryz.ntmps92 Tryz.results92 (zLe rfl) ?_)
 (apply Zo;repeat' ((with_reducible first|apply Zk|(first|apply Za|apply Zb|apply Zc|apply Zd)<;>intro h)<;>try simp -implicitDefEqProofs (maxSteps:=9^7) (disch:=first|omega|(simp only [Qb];omega)) only [go_sem]))
 refine Fc.pure (Qfr xs hlx) (by simp [go_sem, Qi, clo, Qc, Qx]) (by intro g; simp only [go_sem, ren, Ql]) ?_
 (apply Zo;repeat' ((with_reducible first|apply Zk|(first|apply Za|apply Zb|apply Zc|apply Zd)<;>intro h)<;>try simp -implicitDefEqProofs (maxSteps:=9^7) (disch:=first|omega|(simp only [Qb];omega)) only [go_sem]))
 ·skip
  (refine Qo (by intro g; simp only [go_sem, ren, Ql]) ?_)
  simp only [countP, if_neg h]
 ·obtain ⟨h4, ha, hp⟩ := Xs h;refine Fc.pure (Qed xs hlx ha) (by simp [go_sem, Qi, clo, Qc, Qx]) (by intro g; simp only [go_sem, ren, Ql]) ?_
  (apply Zo;repeat' ((with_reducible first|apply Zk|(first|apply Za|apply Zb|apply Zc|apply Zd)<;>intro h)<;>try simp -implicitDefEqProofs (maxSteps:=9^7) (disch:=first|omega|(simp only [Qb];omega)) only [go_sem]))
  (refine Qo (by intro g; simp only [go_sem, ren, Ql]) ?_)
  rw [countP, if_pos h, Qg8, if_neg (by omega)]
theorem Qt4 (xs ys : List Int) (hx : xs.length ≤ 17592186044416) : Pu C 70 [.sl xs.length (ints xs), .sl ys.length (ints ys)] (.bool (decide (xs = ys))) := by
 refine Fc.keep (Fc.bodyT Qe Tryz.func70 w70 rfl Tryz.ntmps70 Tryz.results70 (zLe rfl) ?_)
 (apply Zo;repeat' ((with_reducible first|apply Zk|(first|apply Za|apply Zb|apply Zc|apply Zd)<;>intro h)<;>try simp -implicitDefEqProofs (maxSteps:=9^7) (disch:=first|omega|(simp only [Qb];omega)) only [go_sem]))
 ·skip
  (refine Qo (by intro g; simp only [go_sem, ren, Ql]) ?_)
  congr 1; symm; simp; rintro rfl; exact h rfl
 ·skip
  refine Qf (fun n ts H => ∃ i, (i ≤ xs.length) ∧ (∀ j, j < i → xs.getD j 0 = ys.getD j 0) ∧ (n = xs.length - i) ∧ (H = []) ∧ ts.length = 26 ∧ nth ts 0 = .sl xs.length (ints xs) ∧ nth ts 1 = .sl ys.length (ints ys) ∧ nth ts 12 = .int .i64 xs.length ∧ nth ts 13 = .int .i64 i) ?_ (n := xs.length) ?_
  ·skip
   rintro n ts H ⟨i, hi, he, hn, hH, hL, hs0, hs1, hs12, hs13⟩;refine Qv [(0, .sl xs.length (ints xs)), (1, .sl ys.length (ints ys)), (12, .int .i64 xs.length), (13, .int .i64 i)] hL (by simp only [zFm, hs0, hs1, hs12, hs13, true_and]; exact zNm) ?_
   clear hL hs0 hs1 hs12 hs13 ts
   refine Qu Qe ?_;subst hH hn
   (apply Zo;repeat' ((with_reducible first|apply Zk|(first|apply Za|apply Zb|apply Zc|apply Zd)<;>intro h)<;>try simp -implicitDefEqProofs (maxSteps:=9^7) (disch:=first|omega|(simp only [Qb];omega)) only [go_sem]))
   ·skip
    (refine Qo (by intro g; simp only [go_sem, ren, Ql]) ?_)
    congr 1; symm; simp; rintro rfl; exact h rfl
   ·exact ⟨_, by omega, i + 1, by omega, Qlh he h, rfl, (by (repeat' apply And.intro) <;> (first | rfl | omega | (congr 1; omega) | assumption | (congr 1; assumption)))⟩
   ·skip
    (refine Qo (by intro g; simp only [go_sem, ren, Ql]) ?_)
    congr 1; symm; simp; exact Qaa (by omega) fun j hj => he j (by omega)
  ·exact ⟨0, by omega, fun j hj => by omega, rfl, rfl, rfl, rfl, rfl, rfl, rfl⟩
theorem Qrc (xs : List Int) (hx : xs.length ≤ 1000000000000) : Fc C 65 [.sl xs.length (ints xs)] [] (fun v H => Ret 3 1 H v xs.length (ints xs)) := by
 refine Fc.keep (Fc.bodyT Qe Tryz.func65 w65 rfl Tryz.ntmps65 Tryz.results65 (zLe rfl) ?_)
 (apply Zo;repeat' ((with_reducible first|apply Zk|(first|apply Za|apply Zb|apply Zc|apply Zd)<;>intro h)<;>try simp -implicitDefEqProofs (maxSteps:=9^7) (disch:=first|omega|(simp only [Qb];omega)) only [go_sem]))
 refine ⟨?_, fun h0 => ?_⟩
 ·refine Qmv rfl rfl ⟨by decide, by decide⟩ (by omega) (Zn xs) (Qcc xs) fun v' H' hu' _ => ?_
  (apply Zo;repeat' ((with_reducible first|apply Zk|(first|apply Za|apply Zb|apply Zc|apply Zd)<;>intro h)<;>try simp -implicitDefEqProofs (maxSteps:=9^7) (disch:=first|omega|(simp only [Qb];omega)) only [go_sem]))
  exact hu'.ret (fun g => Qy g _) fun v H h => h
 ·have hn : xs = [] := List.eq_nil_of_length_eq_zero h0
  subst hn
  (apply Zo;repeat' ((with_reducible first|apply Zk|(first|apply Za|apply Zb|apply Zc|apply Zd)<;>intro h)<;>try simp -implicitDefEqProofs (maxSteps:=9^7) (disch:=first|omega|(simp only [Qb];omega)) only [go_sem]))
  exact (Own.nil ..).ret (fun g => Qy g []) fun v H h => h
theorem Qjl (xs : List Int) (hx : xs.length ≤ 1000000000000) : Fc C 52 [.sl xs.length (ints xs)] [] (fun v H => Ret 3 1 H v xs.length (ints xs)) := by
 refine Fc.keep (Fc.bodyT Qe Tryz.func52 w52 rfl Tryz.ntmps52 Tryz.results52 (zLe rfl) ?_)
 (apply Zo;repeat' ((with_reducible first|apply Zk|(first|apply Za|apply Zb|apply Zc|apply Zd)<;>intro h)<;>try simp -implicitDefEqProofs (maxSteps:=9^7) (disch:=first|omega|(simp only [Qb];omega)) only [go_sem]))
 refine ⟨?_, fun h0 => ?_⟩
 ·refine Qmv rfl rfl ⟨by decide, by decide⟩ (by omega) (Zn xs) (Qcc xs) fun v' H' hu' _ => ?_
  (apply Zo;repeat' ((with_reducible first|apply Zk|(first|apply Za|apply Zb|apply Zc|apply Zd)<;>intro h)<;>try simp -implicitDefEqProofs (maxSteps:=9^7) (disch:=first|omega|(simp only [Qb];omega)) only [go_sem]))
  exact hu'.ret (fun g => Qy g _) fun v H h => h
 ·have hn : xs = [] := List.eq_nil_of_length_eq_zero h0
  subst hn
  (apply Zo;repeat' ((with_reducible first|apply Zk|(first|apply Za|apply Zb|apply Zc|apply Zd)<;>intro h)<;>try simp -implicitDefEqProofs (maxSteps:=9^7) (disch:=first|omega|(simp only [Qb];omega)) only [go_sem]))
  exact (Own.nil ..).ret (fun g => Qy g []) fun v H h => h
theorem Qsu (a : Int) : Pu C 167 [.int .i64 a] (.bool false) := by
 refine Fc.keep (Fc.bodyT Qe Tryz.func167 w167 rfl Tryz.ntmps167 Tryz.results167 (zLe rfl) ?_)
 (apply Zo;repeat' ((with_reducible first|apply Zk|(first|apply Za|apply Zb|apply Zc|apply Zd)<;>intro h)<;>try simp -implicitDefEqProofs (maxSteps:=9^7) (disch:=first|omega|(simp only [Qb];omega)) only [go_sem]))
 (refine Qo (by intro g; simp only [go_sem, ren, Ql]) ?_)
 simp
theorem Yb (a b : Int) : Pu C 150 [.int .i64 a, .int .i64 b] (.bool (decide (a < b))) := by
 refine Fc.keep (Fc.bodyT Qe Tryz.func150 w150 rfl Tryz.ntmps150 Tryz.results150 (zLe rfl) ?_)
 (apply Zo;repeat' ((with_reducible first|apply Zk|(first|apply Za|apply Zb|apply Zc|apply Zd)<;>intro h)<;>try simp -implicitDefEqProofs (maxSteps:=9^7) (disch:=first|omega|(simp only [Qb];omega)) only [go_sem]))
 refine Fc.pure (Qsu a) (by simp [go_sem, Qi, clo, Qc, Qx]) (by intro g; simp only [go_sem, ren, Ql]) ?_
 (apply Zo;repeat' ((with_reducible first|apply Zk|(first|apply Za|apply Zb|apply Zc|apply Zd)<;>intro h)<;>try simp -implicitDefEqProofs (maxSteps:=9^7) (disch:=first|omega|(simp only [Qb];omega)) only [go_sem]))
 (refine Qo (by intro g; simp only [go_sem, ren, Ql]) ?_)
 (simp only [V.tup.injEq, List.cons.injEq, V.int.injEq, V.bool.injEq, true_and, and_true]; (try rw [Bool.eq_iff_iff]); (try simp only [decide_eq_true_eq, decide_eq_false_iff_not, Decidable.not_not, true_and, and_true, Bool.not_eq_true, Bool.not_eq_eq_eq_not, Bool.not_true, Bool.and_eq_true, Bool.or_eq_true, beq_iff_eq, bne_iff_ne, ne_eq, Bool.false_eq_true, false_iff, true_iff, iff_false, iff_true]); (try omega))
def swp (l : List Int) (j : Nat) : List Int := (l.set j (l.getD (j - 1) 0)).set (j - 1) (l.getD j 0)
theorem Qy3 (l : List Int) {j : Nat} (h0 : 0 < j) (h : j < l.length) : (swp l j).Perm l := by
 rw [List.perm_iff_count];intro a
 have h1 : j - 1 < l.length := by omega
 have e1 : l.getD j 0 = l[j] := by simp [List.getD, h]
 have e2 : l.getD (j - 1) 0 = l[j - 1] := by simp [List.getD, h1]
 have e3 : (l.set j l[j - 1])[j - 1]'(by simpa using h1) = l[j - 1] := by rw [List.getElem_set_ne (by omega)]
 rw [swp, e2, e1, List.count_set (by simpa using h1), List.count_set h, e3]
 have c1 : (if (l[j] == a) = true then 1 else 0) ≤ List.count a l := by
  split
  ·rename_i hh; exact List.one_le_count_iff.2 (by rw [← eq_of_beq hh]; exact List.getElem_mem _)
  ·omega
 have c2 : (if (l[j - 1] == a) = true then 1 else 0) ≤ List.count a l := by
  split
  ·rename_i hh; exact List.one_le_count_iff.2 (by rw [← eq_of_beq hh]; exact List.getElem_mem _)
  ·omega
 omega
theorem Qg2 (l : List Int) {j : Nat} (h0 : 0 < j) (h : j < l.length) (q : Nat) : (swp l j).getD q 0 = if q = j - 1 then l.getD j 0 else if q = j then l.getD (j - 1) 0 else l.getD q 0 := by
 unfold swp;split
 ·subst q; rw [Go.Bv.getD_set_eq _ (by simp; omega)]
 ·rename_i hq;rw [Go.Bv.getD_set_ne _ hq];split
  ·subst q; rw [Go.Bv.getD_set_eq _ h]
  ·rename_i hq2; rw [Go.Bv.getD_set_ne _ hq2]
structure Ins (xs zs : List Int) (i j : Nat) : Prop where
 perm : zs.Perm xs
 others : ∀ p q, p < q → q ≤ i → p ≠ j → q ≠ j → zs.getD p 0 ≤ zs.getD q 0
 above : ∀ q, j < q → q ≤ i → zs.getD j 0 ≤ zs.getD q 0
theorem Ins.len {xs zs : List Int} {i j : Nat} (h : Ins xs zs i j) : zs.length = xs.length := h.perm.length_eq
theorem Ins.step {xs zs : List Int} {i j : Nat} (h : Ins xs zs i j) (h0 : 0 < j) (hj : j ≤ i) (hi : i < zs.length) (hlt : zs.getD j 0 < zs.getD (j - 1) 0) : Ins xs (swp zs j) i (j - 1) := by
 refine ⟨(Qy3 zs h0 (by omega)).trans h.perm, fun p q hpq hq hp1 hq1 => ?_, fun q hq hqi => ?_⟩
 ·rw [Qg2 _ h0 (by omega), Qg2 _ h0 (by omega), if_neg hp1, if_neg hq1]
  split
  ·subst p;rw [if_neg (by omega)]
   exact h.others (j - 1) q (by omega) hq (by omega) (by omega)
  ·split
   ·subst q;exact h.others p (j - 1) (by omega) (by omega) (by omega) (by omega)
   ·exact h.others p q hpq hq (by omega) (by omega)
 ·rw [Qg2 _ h0 (by omega), Qg2 _ h0 (by omega), if_pos rfl, if_neg (by omega)]
  split
  ·omega
  ·exact h.above q (by omega) hqi
theorem Ins.done {xs zs : List Int} {i j : Nat} (h : Ins xs zs i j) (hj : j ≤ i) (hx : j = 0 ∨ ¬ zs.getD j 0 < zs.getD (j - 1) 0) : ∀ p q, p < q → q ≤ i → zs.getD p 0 ≤ zs.getD q 0 := by
 intro p q hpq hq;by_cases hp : p = j
 ·subst hp; exact h.above q hpq hq
 ·by_cases hqj : q = j
  ·subst hqj;rcases hx with hx | hx
   ·omega
   ·by_cases hp1 : p = q - 1
    ·subst hp1; omega
    ·have := h.others p (q - 1) (by omega) (by omega) (by omega) (by omega)
     omega
  ·exact h.others p q hpq hq hp hqj
theorem Qat {H0 : Qa} {r : Nat} {row : Row} (hr : Qd H0 r = some row) : H0.set r (some row) = H0 := by
 have := Xn hr
 obtain ⟨h1, h2⟩ := List.getElem?_eq_some_iff.1 this;rw [← h2]; exact List.set_getElem_self ..
theorem Qnt (r : Nat) (H0 : Qa) (xs : List Int) (hr : Qd H0 r = some ⟨3, 1, ints xs⟩) (hn : xs.length ≤ 1000000) : Fc C 144 [.ref r 0 xs.length, .int .i64 0, .int .i64 xs.length] H0 (fun v H' => ∃ ys : List Int, v = .tup [] ∧ ys.Perm xs ∧ (∀ p q, p < q → q < ys.length → ys.getD p 0 ≤ ys.getD q 0) ∧ H' = H0.set r (some ⟨3, 1, ints ys⟩)) := by
 have hset : ∀ row, Qd (H0.set r (some row)) r = some row := fun row => Qg hr
 have hsame := Qat hr
 refine Fc.bodyT Qe Tryz.func144 w144 rfl Tryz.ntmps144 Tryz.results144 (zLe rfl) ?_
 (apply Zo;repeat' ((with_reducible first|apply Zk|(first|apply Za|apply Zb|apply Zc|apply Zd)<;>intro h)<;>try simp -implicitDefEqProofs (maxSteps:=9^7) (disch:=first|omega|(simp only [Qb];omega)) only [go_sem]))
 by_cases h0 : xs.length = 0
 ·obtain rfl : xs = [] := List.eq_nil_of_length_eq_zero h0;refine Qhz ?_;refine Qu Qe ?_
  (apply Zo;repeat' ((with_reducible first|apply Zk|(first|apply Za|apply Zb|apply Zc|apply Zd)<;>intro h)<;>try simp -implicitDefEqProofs (maxSteps:=9^7) (disch:=first|omega|(simp only [Qb];omega)) only [go_sem]))
  exact ⟨[], List.Perm.refl _, (fun p q h1 h2 => by simp at h2), hsame.symm⟩
 refine Qf (fun n ts H => ∃ (i : Nat) (zs : List Int), (1 ≤ i) ∧ (i ≤ xs.length) ∧ (zs.Perm xs) ∧ (∀ p q, p < q → q < i → zs.getD p 0 ≤ zs.getD q 0) ∧ (n = xs.length - i) ∧ (H = H0.set r (some ⟨3, 1, ints zs⟩)) ∧ ts.length = 49 ∧ nth ts 0 = .ref r 0 xs.length ∧ nth ts 1 = .int .i64 0 ∧ nth ts 2 = .int .i64 xs.length ∧ nth ts 6 = .int .i64 i) ?_ (n := xs.length - 1) ?_
 ·skip
  rintro n ts H ⟨i, zs, hi1, hi, hp, hs, hn, hH, hL, hs0, hs1, hs2, hs6⟩;refine Qv [(0, .ref r 0 xs.length), (1, .int .i64 0), (2, .int .i64 xs.length), (6, .int .i64 i)] hL (by simp only [zFm, hs0, hs1, hs2, hs6, true_and]; exact zNm) ?_
  clear hL hs0 hs1 hs2 hs6 ts
  refine Qu Qe ?_;subst hn hH
  have hlz := hp.length_eq
  (apply Zo;repeat' ((with_reducible first|apply Zk|(first|apply Za|apply Zb|apply Zc|apply Zd)<;>intro h)<;>try simp -implicitDefEqProofs (maxSteps:=9^7) (disch:=first|omega|(simp only [Qb];omega)) only [go_sem]))
  ·skip
   refine Qf (fun n ts H => ∃ (j : Nat) (ws : List Int), (j ≤ i) ∧ (Ins xs ws i j) ∧ (n = j) ∧ (H = H0.set r (some ⟨3, 1, ints ws⟩)) ∧ ts.length = 49 ∧ nth ts 0 = .ref r 0 xs.length ∧ nth ts 1 = .int .i64 0 ∧ nth ts 2 = .int .i64 xs.length ∧ nth ts 6 = .int .i64 i ∧ nth ts 7 = .int .i64 j) ?_ (n := i) ?_
   ·skip
    rintro n ts H ⟨j, ws, hj, hI, hn, hH, hL, hs0, hs1, hs2, hs6, hs7⟩;refine Qv [(0, .ref r 0 xs.length), (1, .int .i64 0), (2, .int .i64 xs.length), (6, .int .i64 i), (7, .int .i64 j)] hL (by simp only [zFm, hs0, hs1, hs2, hs6, hs7, true_and]; exact zNm) ?_
    clear hL hs0 hs1 hs2 hs6 hs7 ts
    refine Qu Qe ?_;subst hn hH
    have hlw := hI.len
    (apply Zo;repeat' ((with_reducible first|apply Zk|(first|apply Za|apply Zb|apply Zc|apply Zd)<;>intro h)<;>try simp -implicitDefEqProofs (maxSteps:=9^7) (disch:=first|omega|(simp only [Qb];omega)) only [go_sem, hset]))
    ·skip
     refine Pc.pure (Yb _ _) (by simp [go_sem, Qi, clo, Qc, Qx]) (by intro g; simp only [go_sem, ren, Ql]) ?_
     (apply Zo;repeat' ((with_reducible first|apply Zk|(first|apply Za|apply Zb|apply Zc|apply Zd)<;>intro h)<;>try simp -implicitDefEqProofs (maxSteps:=9^7) (disch:=first|omega|(simp only [Qb];omega)) only [go_sem, hset]))
     ·have : ((n : Int) - 1) = ((n - 1 : Nat) : Int) := by omega
      exact ⟨n - 1, by omega, n - 1, swp ws n, by omega, hI.step (by omega) hj (by omega) (by assumption), rfl, rfl, by rw [this]⟩
     ·have hd := hI.done hj (.inr (by assumption))
      exact ⟨xs.length - (i + 1), by omega, i + 1, ws, by omega, by omega, hI.perm, fun p q h1 h2 => hd p q h1 (by omega), rfl, rfl, by simp⟩
    ·have hd := hI.done hj (.inl (by omega))
     exact ⟨xs.length - (i + 1), by omega, i + 1, ws, by omega, by omega, hI.perm, fun p q h1 h2 => hd p q h1 (by omega), rfl, rfl, by simp⟩
   ·exact ⟨i, zs, by omega, ⟨hp, fun p q h1 h2 h3 h4 => hs p q h1 (by omega), fun q h1 h2 => by omega⟩, rfl, rfl, rfl, rfl, rfl, rfl, rfl, rfl⟩
  ·exact ⟨zs, hp, fun p q h1 h2 => hs p q h1 (by omega), rfl⟩
 ·exact ⟨1, xs, by omega, by omega, List.Perm.refl _, fun p q h1 h2 => by omega, rfl, hsame.symm, rfl, rfl, rfl, rfl, rfl⟩
@[go_sem] theorem Qx1 {d : Ty} {k0 : IntKind} {n : Int} {K : V → Prop} : Qcw d (.int k0 n) K = (match d.ik with | some k => K (.int k (k.wrap n)) | none => False) := by unfold Qcw; cases d.ik <;> rfl
theorem Qsz {ty : TypeId → Ty} {y : Ty} {s : ByteArray} {k : IntKind} {i : Nat} {K : V → Prop} (h : y.arr = none) (h2 : y.str = true) (hi : i < s.size) {u : V} (hu : .int .u8 ((s[i]?.getD 0).toNat : Int) = u) (hK : K u) : Kd ty y (.str s) (.int k (i : Int)) K := by
 subst hu;simp only [Kd, h];exact ⟨h2, by omega, by simpa using hi, by simpa using hK⟩
@[go_sem] theorem Xlw {n : Int} (h : 0 ≤ n ∧ n ≤ 255) : IntKind.wrap .u8 n = n := by
 have e : IntKind.wrap .u8 n = n % 256 := rfl
 omega
@[go_sem] theorem Qyh {n : Int} (h : 0 ≤ n ∧ n ≤ 18446744073709551615) : IntKind.wrap .u64 n = n := by
 have e : IntKind.wrap .u64 n = n % 18446744073709551616 := rfl
 omega
theorem Qzv (lim : Int) (r : Nat) (H0 : Qa) (xs : List Int) (hr : Qd H0 r = some ⟨3, 1, ints xs⟩) (hn : xs.length ≤ 12) : Fc C 124 [.ref r 0 xs.length, .int .i64 0, .int .i64 xs.length, .int .i64 lim] H0 (fun v H' => ∃ ys : List Int, v = .tup [] ∧ ys.Perm xs ∧ (∀ p q, p < q → q < ys.length → ys.getD p 0 ≤ ys.getD q 0) ∧ H' = H0.set r (some ⟨3, 1, ints ys⟩)) := by
 refine Fc.bodyT Qe Tryz.func124 w124 rfl Tryz.ntmps124 Tryz.results124 (zLe rfl) ?_
 (apply Zo;repeat' ((with_reducible first|apply Zk|(first|apply Za|apply Zb|apply Zc|apply Zd)<;>intro h)<;>try simp -implicitDefEqProofs (maxSteps:=9^7) (disch:=first|omega|(simp only [Qb];omega)) only [go_sem]))
 refine Qhz ?_;refine Qu Qe ?_
 (apply Zo;repeat' ((with_reducible first|apply Zk|(first|apply Za|apply Zb|apply Zc|apply Zd)<;>intro h)<;>try simp -implicitDefEqProofs (maxSteps:=9^7) (disch:=first|omega|(simp only [Qb];omega)) only [go_sem]))
 refine Fc.mono (Qnt r H0 xs hr (by omega)) ?_
 rintro v H' ⟨ys, rfl, hp, hs, rfl⟩
 (apply Zo;repeat' ((with_reducible first|apply Zk|(first|apply Za|apply Zb|apply Zc|apply Zd)<;>intro h)<;>try simp -implicitDefEqProofs (maxSteps:=9^7) (disch:=first|omega|(simp only [Qb];omega)) only [go_sem]))
 exact ⟨ys, hp, hs, rfl⟩
theorem Qt3 (a : Nat) (h : a ≤ 12) : Pu C 154 [.int .u64 a] (.int .i64 (Nat.log2 (2 * a))) := by
 refine Fc.keep (Fc.bodyT Qe Tryz.func154 w154 rfl Tryz.ntmps154 Tryz.results154 (zLe rfl) ?_)
 (apply Zo;repeat' ((with_reducible first|apply Zk|(first|apply Za|apply Zb|apply Zc|apply Zd)<;>intro h)<;>try simp -implicitDefEqProofs (maxSteps:=9^7) (disch:=first|omega|(simp only [Qb];omega)) only [go_sem]))
 have hx : a = 0 ∨ a = 1 ∨ a = 2 ∨ a = 3 ∨ a = 4 ∨ a = 5 ∨ a = 6 ∨ a = 7 ∨ a = 8 ∨ a = 9 ∨ a = 10 ∨ a = 11 ∨ a = 12 := by omega
 rcases hx with rfl | rfl | rfl | rfl | rfl | rfl | rfl | rfl | rfl | rfl | rfl | rfl | rfl
 all_goals refine ⟨by decide, ?_⟩
 all_goals (apply Zo;repeat' ((with_reducible first|apply Zk|(first|apply Za|apply Zb|apply Zc|apply Zd)<;>intro h)<;>try simp -implicitDefEqProofs (maxSteps:=9^7) (disch:=first|omega|(simp only [Qb];omega)) only [go_sem]))
 all_goals (refine Qo (by intro g; simp only [go_sem, ren, Ql]) ?_)
 all_goals rfl
theorem Qq9 (a : Nat) (h : a ≤ 12) : Pu C 125 [.int .u64 a] (.int .i64 (Nat.log2 (2 * a))) := by
 refine Fc.keep (Fc.bodyT Qe Tryz.func125 w125 rfl Tryz.ntmps125 Tryz.results125 (zLe rfl) ?_)
 (apply Zo;repeat' ((with_reducible first|apply Zk|(first|apply Za|apply Zb|apply Zc|apply Zd)<;>intro h)<;>try simp -implicitDefEqProofs (maxSteps:=9^7) (disch:=first|omega|(simp only [Qb];omega)) only [go_sem]))
 refine Fc.pure (Qt3 a h) (by simp [go_sem, Qi, clo, Qc, Qx]) (by intro g; simp only [go_sem, ren, Ql]) ?_
 (apply Zo;repeat' ((with_reducible first|apply Zk|(first|apply Za|apply Zb|apply Zc|apply Zd)<;>intro h)<;>try simp -implicitDefEqProofs (maxSteps:=9^7) (disch:=first|omega|(simp only [Qb];omega)) only [go_sem]))
 (refine Qo (by intro g; simp only [go_sem, ren, Ql]) ?_)
 rfl
theorem Qye (r : Nat) (H0 : Qa) (xs : List Int) (hr : Qd H0 r = some ⟨3, 1, ints xs⟩) (hn : xs.length ≤ 12) : Fc C 105 [.ref r 0 xs.length] H0 (fun v H' => ∃ ys : List Int, v = .tup [] ∧ ys.Perm xs ∧ (∀ p q, p < q → q < ys.length → ys.getD p 0 ≤ ys.getD q 0) ∧ H' = H0.set r (some ⟨3, 1, ints ys⟩)) := by
 refine Fc.bodyT Qe Tryz.func105 w105 rfl Tryz.ntmps105 Tryz.results105 (zLe rfl) ?_
 (apply Zo;repeat' ((with_reducible first|apply Zk|(first|apply Za|apply Zb|apply Zc|apply Zd)<;>intro h)<;>try simp -implicitDefEqProofs (maxSteps:=9^7) (disch:=first|omega|(simp only [Qb];omega)) only [go_sem]))
 refine Fc.pure (Qq9 _ hn) (by simp [go_sem, Qi, clo, Qc, Qx]) (by intro g; simp only [go_sem, ren, Ql]) ?_
 (apply Zo;repeat' ((with_reducible first|apply Zk|(first|apply Za|apply Zb|apply Zc|apply Zd)<;>intro h)<;>try simp -implicitDefEqProofs (maxSteps:=9^7) (disch:=first|omega|(simp only [Qb];omega)) only [go_sem]))
 refine Fc.mono (Qzv _ r H0 xs hr hn) ?_;rintro v H' ⟨ys, rfl, hp, hs, rfl⟩
 (apply Zo;repeat' ((with_reducible first|apply Zk|(first|apply Za|apply Zb|apply Zc|apply Zd)<;>intro h)<;>try simp -implicitDefEqProofs (maxSteps:=9^7) (disch:=first|omega|(simp only [Qb];omega)) only [go_sem]))
 exact ⟨ys, hp, hs, rfl⟩
theorem Xku : Tryz.f106.body.all yOK = true := by kernel_rfl
def Qjm (xs : List Int) : V := .fn (.func 106) [] [.rp [.sl xs.length (ints xs)] 0]
theorem Qjj (xs : List Int) : Pu C 81 [.sl xs.length (ints xs)] (Qjm xs) := by
 refine Fc.keep (Fc.sealR ?_);refine Fc.bodyT Qe Tryz.func81 w81 rfl Tryz.ntmps81 Tryz.results81 (zLe rfl) ?_
 (apply Zo;repeat' ((with_reducible first|apply Zk|(first|apply Za|apply Zb|apply Zc|apply Zd)<;>intro h)<;>try simp -implicitDefEqProofs (maxSteps:=9^7) (disch:=first|omega|(simp only [Qb];omega)) only [go_sem]))
 refine ⟨0, _, 1, [.sl xs.length (ints xs)], rfl, by simp [Qi, clo, Qc], [], by simp, by simp, ?_⟩
 simp [sz, szL, ren, Ql, Qjm, Qdg, Qy]
theorem Qtz (xs : List Int) (hx : xs.length ≤ 1048576) : Gen C 106 [.rp [.sl xs.length (ints xs)] 0] (xs.map fun a => [.int .i64 a]) := by
 refine Gen.of3 Qe Tryz.func106 w106 Xku rfl Tryz.ntmps106 Tryz.results106 (zLe rfl) (by simp [Qi, clo]) ?_
 intro G l J hW
 (apply Zo;repeat' ((with_reducible first|apply Zk|(first|apply Za|apply Zb|apply Zc|apply Zd)<;>intro h)<;>try simp -implicitDefEqProofs (maxSteps:=9^7) (disch:=first|omega|(simp only [Qb];omega)) only [go_sem]))
 refine Qa2 (fun n ts H => ∃ (i : Nat), (i ≤ xs.length) ∧ (n = xs.length - i) ∧ (H.length = i) ∧ ts.length = 16 ∧ nth ts 0 = .fn (.yield l) [] [] ∧ nth ts 5 = .sl xs.length (ints xs) ∧ nth ts 6 = .int .i64 xs.length ∧ nth ts 7 = .int .i64 i) ?_ (n := xs.length) ?_
 ·skip
  rintro n ts H ⟨i, hi, hn, hH, hL, hs0, hs5, hs6, hs7⟩;refine Qh0 [(0, .fn (.yield l) [] []), (5, .sl xs.length (ints xs)), (6, .int .i64 xs.length), (7, .int .i64 i)] hL (by simp only [zFm, hs0, hs5, hs6, hs7, true_and]; exact zNm) ?_
  clear hL hs0 hs5 hs6 hs7 ts
  refine hW _ _ _ _ ?_
  (apply Zo;repeat' ((with_reducible first|apply Zk|(first|apply Za|apply Zb|apply Zc|apply Zd)<;>intro h)<;>try simp -implicitDefEqProofs (maxSteps:=9^7) (disch:=first|omega|(simp only [Qb];omega)) only [go_sem]))
  ·refine ⟨?_, ⟨xs.length - (i + 1), by omega, i + 1, by omega, rfl, by omega, rfl⟩, .inr trivial, .inr ?_⟩
   ·have : i < xs.length := by omega
    simp [hH, List.getD, this]
   ·simp only [List.length_replicate, List.length_map]; omega
  ·refine ⟨.inl trivial, .inl ?_⟩;simp only [List.length_map]; omega
 ·exact ⟨0, by omega, by omega, rfl, rfl, rfl, rfl, rfl, rfl⟩
theorem Qln (xs : List Int) (hx : xs.length ≤ 1048576) : Fc C 123 [.nil, Qjm xs] [] (fun v H => Ret 3 1 H v xs.length (ints xs)) := by
 have hv : Qjm xs = .fn (.func 106) [] [.rp [.sl xs.length (ints xs)] 0] := rfl
 refine Fc.keep (Fc.bodyT Qe Tryz.func123 w123 rfl Tryz.ntmps123 Tryz.results123 (zLe rfl) ?_)
 (apply Zo;repeat' ((with_reducible first|apply Zk|(first|apply Za|apply Zb|apply Zc|apply Zd)<;>intro h)<;>try simp -implicitDefEqProofs (maxSteps:=9^7) (disch:=first|omega|(simp only [Qb];omega)) only [go_sem, hv]))
 refine Ks (g := 106) (lb := [.rp [.sl xs.length (ints xs)] 0]) (xs := xs.map fun a => [.int .i64 a]) (by simp -implicitDefEqProofs (maxSteps:=9^7) (disch := first | omega | (simp only [Qb]; omega)) only [go_sem]) (by simp [Qi, clo, Qc]) (Qtz xs hx) (by simp) (fun k H => ∃ v, Qd H 0 = some ⟨22, 1, [v]⟩ ∧ Go.Bv.Own 3 1 H v k (ints (xs.take k))) ⟨.nil, rfl, Go.Bv.Own.nil _ _ _⟩ ?_ ?_
 ·intro k us H hk hI l;obtain ⟨v, h0, hO⟩ := hI
  have hkl : k < xs.length := by simpa using (List.getElem?_eq_some_iff.1 hk).1
  obtain rfl : us = [.int .i64 (xs.getD k 0)] := by simp [hkl] at hk; simp [hk.symm, List.getD, hkl]
  (refine Qu Qe ?_; simp -implicitDefEqProofs (maxSteps:=9^7) (disch := first | omega | (simp only [Qb]; omega)) only [go_sem, Qes])
  (refine Qu Qe ?_; simp -implicitDefEqProofs (maxSteps:=9^7) (disch := first | omega | (simp only [Qb]; omega)) only [go_sem, h0])
  refine Qu9 hO rfl ⟨by decide, by decide⟩ (by omega) rfl (Qcc _) fun v' H' hO' hF => ?_
  have h0' : Qd H' 0 = some ⟨22, 1, [v]⟩ := hF 0 _ (by
   rintro off n rfl;rcases hO with ⟨h, _⟩ | ⟨r, h, hr, _⟩
   ·cases h
   ·injection h with h _ _; subst h; rw [h0] at hr; simp at hr) h0
  have hc : cellsOf v' = [v'] ∧ Yr v' = true := by rcases hO' with ⟨rfl, _⟩ | ⟨r, rfl, _⟩ <;> exact ⟨rfl, rfl⟩
  (apply Zo;repeat' ((with_reducible first|apply Zk|(first|apply Za|apply Zb|apply Zc|apply Zd)<;>intro h)<;>try simp -implicitDefEqProofs (maxSteps:=9^7) (disch:=first|omega|(simp only [Qb];omega)) only [go_sem, h0', hc.1, hc.2, Jr, List.all_cons, List.all_nil]))
  have ht : ints (xs.take (k + 1)) = ints (xs.take k) ++ [V.int .i64 (xs.getD k 0)] := by rw [Qj1 xs 0 hkl]; simp [ints]
  refine ⟨v', Qg h0', ?_⟩;rw [ht];rcases hO' with h | ⟨r, h, hr, hl⟩
  ·exact .inl h
  ·refine .inr ⟨r, h, ?_, hl⟩;rw [Qh]
   ·exact hr
   ·rintro rfl; rw [h0'] at hr; simp at hr
 ·intro H hI;obtain ⟨v, h0, hO⟩ := hI
  (apply Zo;repeat' ((with_reducible first|apply Zk|(first|apply Za|apply Zb|apply Zc|apply Zd)<;>intro h)<;>try simp -implicitDefEqProofs (maxSteps:=9^7) (disch:=first|omega|(simp only [Qb];omega)) only [go_sem, h0]))
  simp only [List.length_map, List.take_length] at hO;exact hO.ret (fun g => Qy g _) (fun v H h => h)
theorem Qh1 (xs : List Int) (hx : xs.length ≤ 1048576) : Fc C 104 [Qjm xs] [] (fun v H => Ret 3 1 H v xs.length (ints xs)) := by
 refine Fc.keep (Fc.bodyT Qe Tryz.func104 w104 rfl Tryz.ntmps104 Tryz.results104 (zLe rfl) ?_)
 (apply Zo;repeat' ((with_reducible first|apply Zk|(first|apply Za|apply Zb|apply Zc|apply Zd)<;>intro h)<;>try simp -implicitDefEqProofs (maxSteps:=9^7) (disch:=first|omega|(simp only [Qb];omega)) only [go_sem]))
 refine Fc.own (Qln xs hx) (by simp [Qi, clo, Qjm, Qc]) (fun g => Qy g _) fun v X hO => ?_
 (apply Zo;repeat' ((with_reducible first|apply Zk|(first|apply Za|apply Zb|apply Zc|apply Zd)<;>intro h)<;>try simp -implicitDefEqProofs (maxSteps:=9^7) (disch:=first|omega|(simp only [Qb];omega)) only [go_sem]))
 exact hO.ret (fun g => Qy g _) (fun v H h => h)
theorem Qp8 : Pu C 144 [.nil, .int .i64 0, .int .i64 0] (.tup []) := by
 refine Fc.keep (Fc.bodyT Qe Tryz.func144 w144 rfl Tryz.ntmps144 Tryz.results144 (zLe rfl) ?_)
 (apply Zo;repeat' ((with_reducible first|apply Zk|(first|apply Za|apply Zb|apply Zc|apply Zd)<;>intro h)<;>try simp -implicitDefEqProofs (maxSteps:=9^7) (disch:=first|omega|(simp only [Qb];omega)) only [go_sem]))
 refine Qhz ?_;refine Qu Qe ?_
 (apply Zo;repeat' ((with_reducible first|apply Zk|(first|apply Za|apply Zb|apply Zc|apply Zd)<;>intro h)<;>try simp -implicitDefEqProofs (maxSteps:=9^7) (disch:=first|omega|(simp only [Qb];omega)) only [go_sem]))
 (refine Qo (by intro g; simp only [go_sem, ren, Ql]) ?_)
 rfl
theorem Xed (lim : Int) : Pu C 124 [.nil, .int .i64 0, .int .i64 0, .int .i64 lim] (.tup []) := by
 refine Fc.keep (Fc.bodyT Qe Tryz.func124 w124 rfl Tryz.ntmps124 Tryz.results124 (zLe rfl) ?_)
 (apply Zo;repeat' ((with_reducible first|apply Zk|(first|apply Za|apply Zb|apply Zc|apply Zd)<;>intro h)<;>try simp -implicitDefEqProofs (maxSteps:=9^7) (disch:=first|omega|(simp only [Qb];omega)) only [go_sem]))
 refine Qhz ?_;refine Qu Qe ?_
 (apply Zo;repeat' ((with_reducible first|apply Zk|(first|apply Za|apply Zb|apply Zc|apply Zd)<;>intro h)<;>try simp -implicitDefEqProofs (maxSteps:=9^7) (disch:=first|omega|(simp only [Qb];omega)) only [go_sem]))
 refine Fc.pure (Qp8) (by simp [go_sem, Qi, clo, Qc, Qx]) (by intro g; simp only [go_sem, ren, Ql]) ?_
 (apply Zo;repeat' ((with_reducible first|apply Zk|(first|apply Za|apply Zb|apply Zc|apply Zd)<;>intro h)<;>try simp -implicitDefEqProofs (maxSteps:=9^7) (disch:=first|omega|(simp only [Qb];omega)) only [go_sem]))
 (refine Qo (by intro g; simp only [go_sem, ren, Ql]) ?_)
 rfl
theorem Xc5 : Pu C 105 [.nil] (.tup []) := by
 refine Fc.keep (Fc.bodyT Qe Tryz.func105 w105 rfl Tryz.ntmps105 Tryz.results105 (zLe rfl) ?_)
 (apply Zo;repeat' ((with_reducible first|apply Zk|(first|apply Za|apply Zb|apply Zc|apply Zd)<;>intro h)<;>try simp -implicitDefEqProofs (maxSteps:=9^7) (disch:=first|omega|(simp only [Qb];omega)) only [go_sem]))
 refine Fc.pure (Qq9 0 (by omega)) (by simp [go_sem, Qi, clo, Qc, Qx]) (by intro g; simp only [go_sem, ren, Ql]) ?_
 (apply Zo;repeat' ((with_reducible first|apply Zk|(first|apply Za|apply Zb|apply Zc|apply Zd)<;>intro h)<;>try simp -implicitDefEqProofs (maxSteps:=9^7) (disch:=first|omega|(simp only [Qb];omega)) only [go_sem]))
 refine Fc.pure (Xed _) (by simp [go_sem, Qi, clo, Qc, Qx]) (by intro g; simp only [go_sem, ren, Ql]) ?_
 (apply Zo;repeat' ((with_reducible first|apply Zk|(first|apply Za|apply Zb|apply Zc|apply Zd)<;>intro h)<;>try simp -implicitDefEqProofs (maxSteps:=9^7) (disch:=first|omega|(simp only [Qb];omega)) only [go_sem]))
 (refine Qo (by intro g; simp only [go_sem, ren, Ql]) ?_)
 rfl
theorem Qq7 (xs : List Int) (hx : xs.length ≤ 12) : Fc C 80 [Qjm xs] [] (fun v H => ∃ ys : List Int, ys.Perm xs ∧ (∀ p q, p < q → q < ys.length → ys.getD p 0 ≤ ys.getD q 0) ∧ Ret 3 1 H v ys.length (ints ys)) := by
 refine Fc.keep (Fc.bodyT Qe Tryz.func80 w80 rfl Tryz.ntmps80 Tryz.results80 (zLe rfl) ?_)
 (apply Zo;repeat' ((with_reducible first|apply Zk|(first|apply Za|apply Zb|apply Zc|apply Zd)<;>intro h)<;>try simp -implicitDefEqProofs (maxSteps:=9^7) (disch:=first|omega|(simp only [Qb];omega)) only [go_sem]))
 refine Fc.own (Qh1 xs (by omega)) (by simp [Qi, clo, Qjm, Qc]) (fun g => Qy g _) fun v X hO => ?_
 rcases hO with ⟨rfl, h, h'⟩ | ⟨r, rfl, hr, hl⟩
 ·obtain rfl : xs = [] := List.eq_nil_of_length_eq_zero h
  (apply Zo;repeat' ((with_reducible first|apply Zk|(first|apply Za|apply Zb|apply Zc|apply Zd)<;>intro h)<;>try simp -implicitDefEqProofs (maxSteps:=9^7) (disch:=first|omega|(simp only [Qb];omega)) only [go_sem]))
  refine Fc.pure (Xc5) (by simp [go_sem, Qi, clo, Qc, Qx]) (by intro g; simp only [go_sem, ren, Ql]) ?_
  (apply Zo;repeat' ((with_reducible first|apply Zk|(first|apply Za|apply Zb|apply Zc|apply Zd)<;>intro h)<;>try simp -implicitDefEqProofs (maxSteps:=9^7) (disch:=first|omega|(simp only [Qb];omega)) only [go_sem]))
  exact (Go.Bv.Own.nil _ _ _).ret (fun g => rfl) (fun v H h => ⟨[], .refl _, fun p q h1 h2 => by simp at h2, h⟩)
 ·skip
  (apply Zo;repeat' ((with_reducible first|apply Zk|(first|apply Za|apply Zb|apply Zc|apply Zd)<;>intro h)<;>try simp -implicitDefEqProofs (maxSteps:=9^7) (disch:=first|omega|(simp only [Qb];omega)) only [go_sem]))
  refine Fc.mono (Qye r _ xs hr hx) ?_;rintro v H' ⟨ys, rfl, hp, hs, rfl⟩
  (apply Zo;repeat' ((with_reducible first|apply Zk|(first|apply Za|apply Zb|apply Zc|apply Zd)<;>intro h)<;>try simp -implicitDefEqProofs (maxSteps:=9^7) (disch:=first|omega|(simp only [Qb];omega)) only [go_sem]))
  have hO : Go.Bv.Own 3 1 (List.set ([] ++ X) r (some ⟨3, 1, ints ys⟩)) (.ref r 0 xs.length) ys.length (ints ys) := .inr ⟨r, by rw [hp.length_eq], Qg hr, by simp [Zn]⟩
  exact hO.ret (fun g => Qy g _) (fun v H h => ⟨ys, hp, hs, h⟩)
end Go.Proofs.YtjdbdmhjakfldaaGreat
end
section
namespace Go.Bv
def lv (b : Nat) : List Nat → Nat
 | [] => 0
 | x :: l => x + b * lv b l
theorem Qd1 (b : Nat) : ∀ l m : List Nat, lv b (l ++ m) = lv b l + b ^ l.length * lv b m
 | [], m => by simp [lv]
 | x :: l, m => by
  simp only [List.cons_append, lv, Qd1 b l m, List.length_cons, Nat.pow_succ, Nat.mul_add];rw [Nat.add_assoc, ← Nat.mul_assoc, Nat.mul_comm (b ^ l.length) b]
theorem Ke (b : Nat) (l : List Nat) (x : Nat) : lv b (l ++ [x]) = lv b l + b ^ l.length * x := by rw [Qd1]; simp [lv]
theorem Qfh {b : Nat} : ∀ {l : List Nat}, (∀ x ∈ l, x < b) → lv b l < b ^ l.length
 | [], _ => by simp [lv]
 | x :: l, h => by
  have h1 := Qfh (l := l) fun y hy => h y (by simp [hy])
  have h2 := h x (by simp)
  simp only [lv, List.length_cons, Nat.pow_succ]
  have h3 : b * (lv b l + 1) ≤ b * b ^ l.length := Nat.mul_le_mul_left b h1
  rw [Nat.mul_comm (b ^ l.length) b];rw [Nat.mul_add, Nat.mul_one] at h3;omega
theorem Qbn {b : Nat} (hb : 0 < b) : ∀ {l : List Nat}, lv b l = 0 ↔ ∀ x ∈ l, x = 0
 | [] => by simp [lv]
 | x :: l => by
  simp only [lv, List.mem_cons, forall_eq_or_imp, ← Qbn hb (l := l)];constructor
  ·intro h
   have h1 : x = 0 := by omega
   have h2 : b * lv b l = 0 := by omega
   rcases Nat.mul_eq_zero.1 h2 with h3 | h3
   ·omega
   ·exact ⟨h1, h3⟩
  ·rintro ⟨rfl, h⟩; rw [h]; simp
def dg (b n : Nat) : List Nat := if h : 1 < b ∧ 0 < n then n % b :: dg b (n / b) else []
termination_by n
decreasing_by exact Nat.div_lt_self h.2 h.1
theorem Xv (b : Nat) : dg b 0 = [] := by rw [dg]; simp
theorem Qcv {b n : Nat} (hb : 1 < b) (hn : 0 < n) : dg b n = n % b :: dg b (n / b) := by rw [dg, dif_pos ⟨hb, hn⟩]
theorem Qte {b : Nat} (hb : 1 < b) {P : Nat → Prop} (h0 : P 0) (h1 : ∀ n, 0 < n → P (n / b) → P n) (n : Nat) : P n := by
 induction n using Nat.strongRecOn with
 | ind n ih =>
  by_cases h : n = 0
  ·subst h; exact h0
  ·exact h1 n (by omega) (ih _ (Nat.div_lt_self (by omega) hb))
theorem Qks {b : Nat} (hb : 1 < b) (n : Nat) : lv b (dg b n) = n := by
 refine Qte hb (P := fun n => lv b (dg b n) = n) (by simp [Xv, lv]) (fun n hn ih => ?_) n
 rw [Qcv hb hn, lv, ih, Nat.mod_add_div]
theorem Quz {b : Nat} (hb : 1 < b) (n : Nat) : ∀ x ∈ dg b n, x < b := by
 refine Qte hb (P := fun n => ∀ x ∈ dg b n, x < b) (by simp [Xv]) (fun n hn ih => ?_) n
 rw [Qcv hb hn];intro x hx;rcases List.mem_cons.1 hx with rfl | hx
 ·exact Nat.mod_lt _ (by omega)
 ·exact ih x hx
def Xx : List Nat → Nat
 | [] => 0
 | x :: l => if Xx l = 0 then (if x = 0 then 0 else 1) else Xx l + 1
theorem Qab : ∀ l : List Nat, Xx l ≤ l.length
 | [] => by simp [Xx]
 | x :: l => by have := Qab l; simp only [Xx, List.length_cons]; split <;> (try split) <;> omega
theorem Qdp : ∀ {l : List Nat}, Xx l = 0 ↔ ∀ x ∈ l, x = 0
 | [] => by simp [Xx]
 | x :: l => by
  simp only [Xx, List.mem_cons, forall_eq_or_imp, ← Qdp (l := l)];split
  ·rename_i h; split <;> simp [*]
  ·rename_i h; simp [h]
theorem Qjf {b : Nat} (hb : 1 < b) : ∀ {l : List Nat}, (∀ x ∈ l, x < b) → dg b (lv b l) = l.take (Xx l)
 | [], _ => by simp [lv, Xv]
 | x :: l, h => by
  have ih := Qjf hb (l := l) fun y hy => h y (by simp [hy])
  have hx := h x (by simp)
  simp only [Xx];by_cases ht : Xx l = 0
  ·rw [if_pos ht]
   have hz : lv b l = 0 := (Qbn (by omega)).2 (Qdp.1 ht)
   simp only [lv, hz, Nat.mul_zero, Nat.add_zero];by_cases hx0 : x = 0
   ·subst hx0; rw [if_pos rfl, Xv]; rfl
   ·rw [if_neg hx0, Qcv hb (by omega), Nat.mod_eq_of_lt hx, Nat.div_eq_of_lt hx, Xv]; simp
  ·rw [if_neg ht]
   have hz : 0 < lv b l := Nat.pos_of_ne_zero fun h0 => ht (Qdp.2 ((Qbn (by omega)).1 h0))
   have hp : 0 < lv b (x :: l) := by
    simp only [lv]
    have := Nat.mul_pos (show 0 < b by omega) hz
    omega
   rw [Qcv hb hp];simp only [lv];rw [Nat.add_mul_mod_self_left, Nat.mod_eq_of_lt hx, Nat.add_mul_div_left _ _ (by omega), Nat.div_eq_of_lt hx, Nat.zero_add, ih]
   simp
theorem Xdt {b : Nat} (hb : 1 < b) (n : Nat) : Xx (dg b n) = (dg b n).length := by
 have h := Qjf hb (Quz hb n)
 rw [Qks hb] at h
 have h2 := Qab (dg b n)
 have h3 : (dg b n).length = ((dg b n).take (Xx (dg b n))).length := by rw [← h]
 rw [List.length_take] at h3;omega
theorem Xe {b : Nat} (hb : 1 < b) (n k : Nat) (h : n < b ^ k) : (dg b n).length ≤ k := by
 induction k generalizing n with
 | zero => simp at h; subst h; simp [Xv]
 | succ k ih =>
  by_cases hn : n = 0
  ·subst hn; simp [Xv]
  ·rw [Qcv hb (by omega), List.length_cons]
   have := ih (n / b) (Nat.div_lt_of_lt_mul (by rw [Nat.mul_comm, ← Nat.pow_succ]; exact h))
   omega
theorem Yh {b : Nat} (hb : 1 < b) (n : Nat) : n < b ^ (dg b n).length := by
 have := Qfh (Quz hb n)
 rwa [Qks hb] at this
theorem Kl {b : Nat} {l : List Nat} (h : ∀ x ∈ l, x < b) (k : Nat) (hk : k ≤ l.length) : lv b (l.take k) < b ^ k := by
 have := Qfh (l := l.take k) fun x hx => h x (List.mem_of_mem_take hx)
 rwa [List.length_take, Nat.min_eq_left hk] at this
theorem Km (b : Nat) (l : List Nat) (k : Nat) (hk : k ≤ l.length) : lv b l = lv b (l.take k) + b ^ k * lv b (l.drop k) := by
 conv => lhs; rw [← List.take_append_drop k l]
 rw [Qd1, List.length_take, Nat.min_eq_left hk]
def Xa (k : IntKind) (l : List Nat) : List V := l.map fun x : Nat => V.int k (x : Int)
@[go_sem] theorem Yg (k : IntKind) (l : List Nat) : (Xa k l).length = l.length := by simp [Xa]
theorem Qja (k : IntKind) (l m : List Nat) : Xa k (l ++ m) = Xa k l ++ Xa k m := by simp [Xa]
theorem Qii (k : IntKind) (l : List Nat) (n : Nat) : (Xa k l).take n = Xa k (l.take n) := by simp [Xa, List.map_take]
@[go_sem] theorem Qdy (k : IntKind) (l : List Nat) : (Xa k l).all Yr = true := by simp [Xa, Yr]
theorem Qhe {k : IntKind} (l : List Nat) (i : Nat) (h : i < l.length) : nth (Xa k l) i = .int k (l.getD i 0 : Nat) := by
 rw [Yi]; simp [Xa, List.getD, h]
attribute [go_sem] Qhe
@[go_sem] theorem Jy (k : IntKind) (g : Nat → Option Nat) (l : List Nat) : Ql g (Xa k l) = Xa k l := by
 induction l with
 | nil => rfl
 | cons x l ih => simp only [Xa, List.map_cons, Ql, ren] at ih ⊢; rw [ih]
@[go_sem] theorem Qk (k : IntKind) (l : List Nat) : Qi (Xa k l) = true := by
 induction l with
 | nil => rfl
 | cons x l ih => simp only [Xa, List.map_cons, Qi, clo] at ih ⊢; rw [ih]; rfl
theorem Xz (k : IntKind) (l : List Nat) : Xk (Xa k l) = true := by
 induction l with
 | nil => rfl
 | cons x l ih => simp only [Xa, List.map_cons, Xk, plain] at ih ⊢; rw [ih]; rfl
theorem Qjt {n : Int} (h : 0 ≤ n ∧ n ≤ 18446744073709551615) : IntKind.wrap .u64 n = n := by
 have e : IntKind.wrap .u64 n = n % 18446744073709551616 := by simp [IntKind.wrap, IntKind.bits, IntKind.signed]
 rw [e]; omega
theorem Qgx {n : Int} (h : 0 ≤ n ∧ n ≤ 4294967295) : IntKind.wrap .u32 n = n := by
 have e : IntKind.wrap .u32 n = n % 4294967296 := by simp [IntKind.wrap, IntKind.bits, IntKind.signed]
 rw [e]; omega
theorem Qot (n : Int) : IntKind.wrap .u64 n = n % 18446744073709551616 := by simp [IntKind.wrap, IntKind.bits, IntKind.signed]
theorem Qc5 (n : Int) : IntKind.wrap .u32 n = n % 4294967296 := by simp [IntKind.wrap, IntKind.bits, IntKind.signed]
attribute [go_sem] Qjt Qgx
def Qqk (o : Option IntKind) (n : Int) (K : V → Prop) : Prop := match o with
 | some k => K (.int k (k.wrap n))
 | none => False
@[congr] theorem Xgw {uu : Prop} (h00 : (True ∧ True) = uu) {o o' : Option IntKind} {n n' : Int} (K : V → Prop) (h : o = o') (h2 : n = n') : Qqk o n K = Qqk o' n' K := by rw [h, h2]
@[go_sem] theorem Qx1 (y : Ty) (k : IntKind) (n : Int) (K : V → Prop) : Qcw y (.int k n) K = Qqk y.ik n K := by
 unfold Qcw Qqk; cases y.ik <;> rfl
@[go_sem] theorem Xje (k : IntKind) (n : Int) (K : V → Prop) : Qqk (some k) n K = K (.int k (k.wrap n)) := rfl
theorem Qvq (l : List Nat) (x : Nat) : Xx (l ++ [x]) = if x = 0 then Xx l else l.length + 1 := by
 induction l with
 | nil => simp [Xx]
 | cons y l ih =>
  simp only [List.cons_append, Xx, ih, List.length_cons];by_cases hx : x = 0
  ·simp [hx]
  ·simp [hx]
theorem Kt {l : List Nat} {n : Nat} (h : n < l.length) : Xx (l.take (n + 1)) = if l.getD n 0 = 0 then Xx (l.take n) else n + 1 := by
 have : l.take (n + 1) = l.take n ++ [l.getD n 0] := by rw [List.take_add_one]; simp [List.getD, h]
 rw [this, Qvq, List.length_take, Nat.min_eq_left (by omega)]
theorem Qfg {b : Nat} {l : List Nat} {n : Nat} (h : n < l.length) : lv b (l.take (n + 1)) = lv b (l.take n) + b ^ n * l.getD n 0 := by
 have : l.take (n + 1) = l.take n ++ [l.getD n 0] := by rw [List.take_add_one]; simp [List.getD, h]
 rw [this, Ke, List.length_take, Nat.min_eq_left (by omega)]
def Lim (l : List Nat) : Prop := ∀ x ∈ l, x < 4294967296
theorem Lim.get {l : List Nat} (h : Lim l) (i : Nat) : l.getD i 0 < 4294967296 := by
 by_cases hi : i < l.length
 ·have : l.getD i 0 = l[i] := by simp [List.getD, hi]
  rw [this]; exact h _ (List.getElem_mem hi)
 ·simp [List.getD, List.getElem?_eq_none (Nat.le_of_not_lt hi)]
theorem Xf8 {k a b : Nat} (ha : a < 2 ^ k) (hb : b < 2 ^ k) : (BitVec.ofInt k (a : Int) &&& BitVec.ofInt k (b : Int)).toNat = a &&& b := by
 rw [BitVec.toNat_and, BitVec.ofInt_natCast, BitVec.ofInt_natCast, BitVec.toNat_ofNat, BitVec.toNat_ofNat, Nat.mod_eq_of_lt ha, Nat.mod_eq_of_lt hb]
theorem Qzy {k a b : Nat} (ha : a < 2 ^ k) (hb : b < 2 ^ k) : (BitVec.ofInt k (a : Int) ||| BitVec.ofInt k (b : Int)).toNat = a ||| b := by
 rw [BitVec.toNat_or, BitVec.ofInt_natCast, BitVec.ofInt_natCast, BitVec.toNat_ofNat, BitVec.toNat_ofNat, Nat.mod_eq_of_lt ha, Nat.mod_eq_of_lt hb]
theorem Qt5 {k a b : Nat} (ha : a < 2 ^ k) (hb : b < 2 ^ k) : (BitVec.ofInt k (a : Int) ^^^ BitVec.ofInt k (b : Int)).toNat = a ^^^ b := by
 rw [BitVec.toNat_xor, BitVec.ofInt_natCast, BitVec.ofInt_natCast, BitVec.toNat_ofNat, BitVec.toNat_ofNat, Nat.mod_eq_of_lt ha, Nat.mod_eq_of_lt hb]
def Yq (n : Nat) : Nat := (dg 2 n).length
theorem Qf1 (n : Nat) : n < 2 ^ Yq n := Yh (by decide) n
theorem Ju {n k : Nat} (h : n < 2 ^ k) : Yq n ≤ k := Xe (by decide) n k h
theorem Qoi {n k : Nat} (h : 2 ^ k ≤ n) : k < Yq n := by
 refine Classical.byContradiction fun hc => ?_
 have := Qf1 n
 have := Nat.pow_le_pow_right (n := 2) (by decide) (Nat.le_of_not_lt hc)
 omega
theorem Qu7 {n k : Nat} (h1 : n < 2 ^ (k + 1)) (h2 : 2 ^ k ≤ n) : Yq n = k + 1 := by
 have := Ju h1
 have := Qoi h2
 omega
theorem Qi0 : Yq 0 = 0 := by simp [Yq, Xv]
theorem Qlc {n : Nat} (h : 0 < n) : 2 ^ (Yq n - 1) ≤ n := by
 refine Classical.byContradiction fun hc => ?_
 have h1 := Ju (Nat.lt_of_not_le hc)
 have : 0 < Yq n := by
  refine Nat.pos_of_ne_zero fun h0 => ?_
  have := Qf1 n
  rw [h0] at this; simp at this; omega
 omega
theorem Qa0 {n k : Nat} (h : 2 ^ k ≤ n) : Yq n = k + Yq (n / 2 ^ k) := by
 have hp : 0 < 2 ^ k := Nat.two_pow_pos k
 have h0 : 0 < n / 2 ^ k := Nat.div_pos h hp
 have h1 := Qf1 (n / 2 ^ k)
 have h2 := Qlc h0
 have e : Yq (n / 2 ^ k) = (Yq (n / 2 ^ k) - 1) + 1 := by
  have : 0 < Yq (n / 2 ^ k) := Qoi (k := 0) (by rw [Nat.pow_zero]; exact h0)
  omega
 rw [e, ← Nat.add_assoc];refine Qu7 ?_ ?_
 ·rw [Nat.add_assoc, ← e, Nat.pow_add]
  have := (Nat.div_lt_iff_lt_mul hp).1 h1
  rwa [Nat.mul_comm] at this
 ·rw [Nat.pow_add]
  have := (Nat.le_div_iff_mul_le hp).1 h2
  rwa [Nat.mul_comm] at this
end Go.Bv
end
section
namespace Go.Bv
theorem Qgq {b : Nat} (hb : 1 < b) (x : Nat) : ∀ i, (dg b x).getD i 0 = x / b ^ i % b := by
 refine Qte hb (P := fun x => ∀ i, (dg b x).getD i 0 = x / b ^ i % b) (fun i => by simp [Xv, List.getD]) (fun n hn ih i => ?_) x
 rw [Qcv hb hn];cases i with
 | zero => simp [List.getD]
 | succ i =>
  have := ih i
  simp only [List.getD, List.getElem?_cons_succ] at this ⊢;rw [this, Nat.div_div_eq_div_mul, Nat.pow_succ, Nat.mul_comm b]
def D10 : Nat := 10000
def Qq (x : Nat) : Nat := (dg D10 x).length
theorem Qde : 1 < D10 := by decide
theorem Qad {x k : Nat} (h : x < D10 ^ k) : Qq x ≤ k := Xe Qde x k h
theorem Qaw (x : Nat) : x < D10 ^ Qq x := Yh Qde x
theorem Qak {x k : Nat} (h : Qq x ≤ k) : x < D10 ^ k := Nat.lt_of_lt_of_le (Qaw x) (Nat.pow_le_pow_right (by decide) h)
theorem Jn {x y : Nat} (h : x ≤ y) : Qq x ≤ Qq y := Qad (Nat.lt_of_le_of_lt h (Qaw y))
theorem dlen_zero {x : Nat} : Qq x = 0 ↔ x = 0 := by
 constructor
 ·intro h; have := Qaw x; rw [h] at this; simpa using this
 ·intro h; subst h; simp [Qq, Xv]
theorem Xb4 {x : Nat} (h : 0 < x) : Qq x = Qq (x / D10) + 1 := by simp [Qq, Qcv Qde h]
theorem Qfn (x y : Nat) : Qq (x * y) ≤ Qq x + Qq y := Qad (by
 rw [Nat.pow_add];exact Nat.mul_lt_mul'' (Qaw x) (Qaw y))
theorem Quy {x i : Nat} (h : i < Qq x) : D10 ^ i ≤ x := Nat.le_of_not_lt fun h1 => by have := Qad h1; omega
theorem Qjy (x i : Nat) : x / D10 ^ i = x / D10 ^ i % D10 + D10 * (x / D10 ^ (i + 1)) := by
 rw [Nat.pow_succ, ← Nat.div_div_eq_div_mul]; exact (Nat.mod_add_div _ _).symm
theorem Qfc (x i : Nat) : x % D10 ^ (i + 1) = x % D10 ^ i + D10 ^ i * (x / D10 ^ i % D10) := by rw [Nat.pow_succ, Nat.mod_mul]
theorem Qeo {x n : Nat} (h : x < 4294967296 ^ n) : Qq x ≤ 3 * n := Qad (by
 refine Nat.lt_of_lt_of_le h ?_;rw [Nat.pow_mul];exact Nat.pow_le_pow_left (by decide) n)
theorem Qgk (x : Nat) : (dg 4294967296 x).length ≤ Qq x := Xe (by decide) x _ (Nat.lt_of_lt_of_le (Qaw x) (Nat.pow_le_pow_left (by decide) _))
theorem Xfs {l : List Nat} {z : Nat} (h : ∀ x ∈ l, x < D10) (hv : lv D10 l = z) (ht : ∀ k, l.length = k + 1 → D10 ^ k ≤ z) : l = dg D10 z := by
 have h1 := Qjf Qde h
 rw [hv] at h1
 have h2 := Qab l
 have h3 : Qq z = Xx l := by rw [Qq, h1, List.length_take]; omega
 by_cases e : Xx l = l.length
 ·rw [h1, e, List.take_length]
 ·obtain ⟨k, hk⟩ : ∃ k, l.length = k + 1 := ⟨l.length - 1, by omega⟩
  have h4 := ht k hk
  have h5 := Qaw z
  have h6 : D10 ^ Qq z ≤ D10 ^ k := Nat.pow_le_pow_right (by decide) (by omega)
  omega
theorem Xgk {l : List Nat} {c V d : Nat} (h : lv D10 l + D10 ^ l.length * c = V) : lv D10 (l ++ [d % D10]) + D10 ^ (l.length + 1) * (d / D10) + D10 ^ l.length * c = V + D10 ^ l.length * d := by
 rw [Ke, Nat.pow_succ, ← h]
 have hm := Nat.mod_add_div d D10
 have : D10 ^ l.length * d = D10 ^ l.length * (d % D10) + D10 ^ l.length * D10 * (d / D10) := by
  rw [Nat.mul_assoc, ← Nat.mul_add, hm]
 omega
theorem Qiu {l : List Nat} {d : Nat} (h : ∀ x ∈ l, x < D10) (hd : d < D10) : ∀ x ∈ l ++ [d], x < D10 := fun x hx => by
 rcases List.mem_append.1 hx with hx | hx
 ·exact h x hx
 ·simp at hx; rw [hx]; exact hd
theorem Qfd {x i : Nat} (h : Qq x ≤ i) : x % D10 ^ i = x := Nat.mod_eq_of_lt (Qak h)
theorem mod_le (x i : Nat) : x % D10 ^ i ≤ x := Nat.mod_le _ _
structure Rq where
 neg : Bool
 num : Nat
 den : Nat
structure Raw where
 neg : Bool
 num : List Nat
 den : List Nat
def Jg (s : Bool) (p q : Nat) : Rq := if p = 0 ∨ q = 0 then ⟨false, 0, 1⟩ else ⟨s, p / Nat.gcd p q, q / Nat.gcd p q⟩
def Xc (x : Raw) : Rq := Jg x.neg (lv 4294967296 x.num) (lv 4294967296 x.den)
def Qz (r : Rq) : Raw := ⟨r.neg, dg 4294967296 r.num, dg 4294967296 r.den⟩
def isQ (r : Rq) (x : Raw) : Bool := decide (x.neg = r.neg) && (decide (x.num = dg 4294967296 r.num) && decide (x.den = dg 4294967296 r.den))
def okR (x : Raw) : Bool := isQ (Xc x) x
theorem Qei {r : Rq} {x : Raw} : isQ r x = true ↔ x = Qz r := by
 obtain ⟨a, b, c⟩ := x;simp [isQ, Qz]
def Qe1 (r t : Rq) : Bool := decide (r.neg = t.neg) && (decide (r.num = t.num) && decide (r.den = t.den))
theorem Qfu {r t : Rq} : Qe1 r t = true ↔ r = t := by
 obtain ⟨a, b, c⟩ := r;obtain ⟨d, e, f⟩ := t;simp [Qe1]
structure RawOK (x : Raw) : Prop where
 n1 : x.num.length ≤ 10000000000
 d1 : x.den.length ≤ 10000000000
 nL : Lim x.num
 dL : Lim x.den
structure RqOK (r : Rq) : Prop where
 n1 : Qq r.num ≤ 30000000000
 d1 : Qq r.den ≤ 30000000000
theorem Qk6 : Qq 1 = 1 := by rw [Xb4 (by decide)]; simp [Qq, Xv, D10]
theorem Qe9 (s : Bool) (p q : Nat) : (Jg s p q).num ≤ p ∧ ((Jg s p q).den ≤ q ∨ (Jg s p q).den = 1) := by
 unfold Jg;split
 ·exact ⟨Nat.zero_le _, .inr rfl⟩
 ·exact ⟨Nat.div_le_self _ _, .inl (Nat.div_le_self _ _)⟩
theorem Xaf {s : Bool} {p q : Nat} (hp : Qq p ≤ 30000000000) (hq : Qq q ≤ 30000000000) : RqOK (Jg s p q) := by
 obtain ⟨h1, h2⟩ := Qe9 s p q;refine ⟨Nat.le_trans (Jn h1) hp, ?_⟩;rcases h2 with h2 | h2
 ·exact Nat.le_trans (Jn h2) hq
 ·rw [h2, Qk6]; decide
theorem RawOK.p {x : Raw} (h : RawOK x) : Qq (lv 4294967296 x.num) ≤ 30000000000 := by
 have h1 := Qeo (Qfh h.nL)
 have h2 := h.n1
 omega
theorem RawOK.q {x : Raw} (h : RawOK x) : Qq (lv 4294967296 x.den) ≤ 30000000000 := by
 have h1 := Qeo (Qfh h.dL)
 have h2 := h.d1
 omega
theorem RawOK.val {x : Raw} (h : RawOK x) : RqOK (Xc x) := Xaf h.p h.q
theorem Qd5 {p q : Nat} (h : ¬ (p = 0 ∨ q = 0)) : 0 < Nat.gcd p q := Nat.gcd_pos_of_pos_left _ (by omega)
theorem Jd {s : Bool} {p q : Nat} (h : p = 0 ∨ q = 0) : Jg s p q = ⟨false, 0, 1⟩ := if_pos h
theorem Qmj {s : Bool} {p q : Nat} (h : ¬ (p = 0 ∨ q = 0)) : Jg s p q = ⟨s, p / Nat.gcd p q, q / Nat.gcd p q⟩ := if_neg h
def Zh (n : Int) : Rq := ⟨decide (n < 0), n.natAbs, 1⟩
theorem Qkr {b : Nat} (hb : 1 < b) : ∀ {l m : List Nat}, (∀ x ∈ l, x < b) → (∀ x ∈ m, x < b) → l.length = m.length → lv b l = lv b m → l = m
 | [], [], _, _, _, _ => rfl
 | [], _ :: _, _, _, h, _ => nomatch h
 | _ :: _, [], _, _, h, _ => nomatch h
 | x :: l, y :: m, hl, hm, h, hv => by
  have hx := hl x (by simp)
  have hy := hm y (by simp)
  simp only [lv] at hv
  have h1 := congrArg (· % b) hv
  simp only [Nat.add_mul_mod_self_left, Nat.mod_eq_of_lt hx, Nat.mod_eq_of_lt hy] at h1;subst h1
  have h2 := Nat.eq_of_mul_eq_mul_left (show 0 < b by omega) (Nat.add_left_cancel hv)
  rw [Qkr hb (fun z hz => hl z (by simp [hz])) (fun z hz => hm z (by simp [hz])) (by simpa using h) h2]
structure Gs (B P V U v1 v2 top u2 : Nat) : Prop where
 hV : ∃ vl, vl < P ∧ V = (v1 * B + v2) * P + vl
 hU : ∃ ul, ul < P ∧ U = (top * B + u2) * P + ul
 hv2 : v2 < B
 hu2 : u2 < B
 hv1 : v1 < B
 big : B ≤ 2 * v1
 lt : U < B * V
variable {B P V U v1 v2 top u2 : Nat}
theorem Gs.P0 (h : Gs B P V U v1 v2 top u2) : 0 < P := by obtain ⟨vl, h1, _⟩ := h.hV; omega
theorem Gs.B0 (h : Gs B P V U v1 v2 top u2) : 0 < B := by have := h.hv2; omega
theorem Gs.v10 (h : Gs B P V U v1 v2 top u2) : 0 < v1 := by have := h.big; have := h.B0; omega
theorem Gs.V0 (h : Gs B P V U v1 v2 top u2) : 0 < V := by
 obtain ⟨vl, h1, h2⟩ := h.hV
 have : 0 < (v1 * B + v2) * P := Nat.mul_pos (Nat.add_pos_left (Nat.mul_pos h.v10 h.B0) _) h.P0
 omega
theorem Gs.three (h : Gs B P V U v1 v2 top u2) {g : Nat} (hg : g * V ≤ U) : g * (v1 * B + v2) ≤ top * B + u2 := by
 obtain ⟨vl, h1, h2⟩ := h.hV;obtain ⟨ul, h3, h4⟩ := h.hU
 have e1 : g * ((v1 * B + v2) * P) ≤ g * V := Nat.mul_le_mul_left g (by omega)
 have e2 : U < (top * B + u2 + 1) * P := by rw [Nat.add_mul _ 1, Nat.one_mul]; omega
 have e3 : g * (v1 * B + v2) * P < (top * B + u2 + 1) * P := by rw [Nat.mul_assoc]; omega
 have := Nat.lt_of_mul_lt_mul_right e3
 omega
theorem Gs.down (h : Gs B P V U v1 v2 top u2) {g r : Nat} (hr : g * v1 + r = top) (hg : g * V ≤ U) : g * v2 ≤ r * B + u2 := by
 have := h.three hg
 rw [← hr, Nat.mul_add, Nat.add_mul, ← Nat.mul_assoc] at this;omega
theorem Gs.q_lt (h : Gs B P V U v1 v2 top u2) : U / V < B := (Nat.div_lt_iff_lt_mul h.V0).2 h.lt
theorem Gs.first_le (h : Gs B P V U v1 v2 top u2) : U / V ≤ top / v1 := by
 rw [Nat.le_div_iff_mul_le h.v10]
 have hq : U / V * V ≤ U := Nat.div_mul_le_self U V
 have := h.three hq
 have e : U / V * v1 * B ≤ U / V * (v1 * B + v2) := by rw [Nat.mul_add, Nat.mul_assoc]; omega
 have e2 : U / V * v1 * B < (top + 1) * B := by rw [Nat.add_mul, Nat.one_mul]; have := h.hu2; omega
 have := Nat.lt_of_mul_lt_mul_right e2
 omega
theorem Gs.first_ge (h : Gs B P V U v1 v2 top u2) : top / v1 ≤ B + 1 := by
 have : top / v1 < B + 2 := by
  rw [Nat.div_lt_iff_lt_mul h.v10];obtain ⟨vl, h1, h2⟩ := h.hV;obtain ⟨ul, h3, h4⟩ := h.hU
  have hlt := h.lt
  have e1 : (top * B + u2) * P < B * ((v1 * B + v2 + 1) * P) := by
   have : B * V < B * ((v1 * B + v2 + 1) * P) := by
    refine Nat.mul_lt_mul_of_pos_left ?_ h.B0;rw [h2, Nat.add_mul _ 1, Nat.one_mul]; omega
   omega
  rw [← Nat.mul_assoc] at e1
  have e2 := Nat.lt_of_mul_lt_mul_right e1
  have e3 : top * B < (B * v1 + B) * B := by
   have : B * (v1 * B + v2 + 1) ≤ B * (v1 * B + B) := Nat.mul_le_mul_left B (by have := h.hv2; omega)
   have e : B * (v1 * B + B) = (B * v1 + B) * B := by rw [Nat.mul_add, Nat.add_mul, Nat.mul_assoc]
   omega
  have := Nat.lt_of_mul_lt_mul_right e3
  have hb := h.big
  rw [Nat.add_mul];omega
 omega
theorem Gs.end1 (h : Gs B P V U v1 v2 top u2) {g r : Nat} (hr : g * v1 + r = top) (hg : g < B) (hc : g * v2 ≤ r * B + u2) : g ≤ U / V + 1 := by
 by_cases h0 : g = 0
 ·rw [h0]; exact Nat.zero_le _
 have : g - 1 ≤ U / V := by
  rw [Nat.le_div_iff_mul_le h.V0];obtain ⟨vl, h1, h2⟩ := h.hV;obtain ⟨ul, h3, h4⟩ := h.hU;obtain ⟨k, rfl⟩ : ∃ k, g = k + 1 := ⟨g - 1, by omega⟩
  rw [Nat.add_sub_cancel]
  have e1 : (k + 1) * (v1 * B + v2) ≤ top * B + u2 := by
   rw [← hr, Nat.mul_add, Nat.add_mul _ r, ← Nat.mul_assoc]; omega
  have e2 := Nat.mul_le_mul_right P e1
  have e3 : k * V ≤ (k + 1) * (v1 * B + v2) * P := by
   rw [h2, Nat.mul_add, ← Nat.mul_assoc, Nat.add_mul k 1, Nat.one_mul, Nat.add_mul]
   have : k * vl ≤ (v1 * B + v2) * P := by
    refine Nat.mul_le_mul ?_ (by omega)
    have := Nat.mul_le_mul_right B (show 1 ≤ v1 from h.v10)
    omega
   omega
  omega
 omega
theorem Gs.end2 (h : Gs B P V U v1 v2 top u2) {g r : Nat} (hr : g * v1 + r = top) (hg : g ≤ B) (hB : B ≤ r) : g ≤ U / V := by
 rw [Nat.le_div_iff_mul_le h.V0];obtain ⟨vl, h1, h2⟩ := h.hV;obtain ⟨ul, h3, h4⟩ := h.hU
 have e1 : g * V ≤ g * (v1 * B + B) * P := by
  rw [Nat.mul_assoc];refine Nat.mul_le_mul_left g ?_
  have : (v1 * B + v2 + 1) * P ≤ (v1 * B + B) * P := Nat.mul_le_mul_right P (by have := h.hv2; omega)
  rw [Nat.add_mul _ 1, Nat.one_mul] at this;omega
 have e2 : g * (v1 * B + B) ≤ top * B + u2 := by
  rw [← hr, Nat.mul_add, ← Nat.mul_assoc, Nat.add_mul]
  have := Nat.mul_le_mul_right B hg
  have := Nat.mul_le_mul_right B hB
  omega
 have e3 := Nat.mul_le_mul_right P e2
 omega
theorem Gs.step (h : Gs B P V U v1 v2 top u2) {g r : Nat} (hr : g * v1 + r = top) (hq : U / V ≤ g) (hg : g ≤ B + 1) (hc : B ≤ g ∨ r * B + u2 < g * v2) :
  ∃ g', g = g' + 1 ∧ U / V ≤ g' ∧ g' ≤ B ∧ g' * v1 + (r + v1) = top ∧ (B ≤ r + v1 → g' ≤ U / V ∧ g' < B) := by
 have hlt := h.q_lt
 have hne : U / V ≠ g := fun e => by
  rcases hc with hc | hc
  ·omega
  ·have : g * V ≤ U := by rw [← Nat.le_div_iff_mul_le h.V0]; omega
   have := h.down hr this
   omega
 have hq' : U / V < g := Nat.lt_of_le_of_ne hq hne
 obtain ⟨k, rfl⟩ : ∃ k, g = k + 1 := ⟨g - 1, by have := Nat.zero_le (U / V); omega⟩
 have hk : k * v1 + (r + v1) = top := by rw [Nat.add_mul, Nat.one_mul] at hr; omega
 refine ⟨k, rfl, by omega, by omega, hk, fun hB => ?_⟩
 have := h.end2 hk (by omega) hB
 exact ⟨this, Nat.lt_of_le_of_lt this hlt⟩
end Go.Bv
end
section
namespace Go.Bv
theorem Xlk {U V g p : Nat} (hV : 0 < V) (hq : U / V ≤ g) (e : p + g * V = U) : g = U / V ∧ p = U % V := by
 have h1 : g ≤ U / V := by rw [Nat.le_div_iff_mul_le hV]; omega
 have h2 : g = U / V := Nat.le_antisymm h1 hq
 have h3 := Nat.div_add_mod U V
 refine ⟨h2, ?_⟩;rw [h2, Nat.mul_comm] at e;omega
theorem Xlj {U V g p p' M c : Nat} (hV : 0 < V) (hVM : V ≤ M) (hq : U / V ≤ g) (hg : g ≤ U / V + 1) (e : p + g * V = U + M) (hp : p < M) (e2 : p' + M * c = p + V) (hp2 : p' < M) : g = U / V + 1 ∧ p' = U % V := by
 have h3 := Nat.div_add_mod U V
 have hm := Nat.mod_lt U hV
 have hne : g ≠ U / V := fun h => by
  rw [h, Nat.mul_comm] at e;omega
 have hg' : g = U / V + 1 := by
  rcases Nat.lt_or_ge (U / V) g with h | h
  ·exact Nat.le_antisymm hg h
  ·exact (hne (Nat.le_antisymm h hq)).elim
 refine ⟨hg', ?_⟩;rw [hg', Nat.add_mul, Nat.one_mul, Nat.mul_comm] at e
 have hc : c = 1 := by
  rcases Nat.lt_trichotomy c 1 with h | h | h
  ·have : c = 0 := by omega
   subst this; rw [Nat.mul_zero] at e2; omega
  ·exact h
  ·have := Nat.mul_le_mul_left M (show 2 ≤ c by omega)
   omega
 subst hc;rw [Nat.mul_one] at e2;omega
theorem Xll {B R w V n : Nat} (hB : 0 < B) (hw : w < B) (hR : R < V) : w + B * R < B * V := by
 have := Nat.mul_le_mul_left B (show R + 1 ≤ V from hR)
 rw [Nat.mul_add, Nat.mul_one] at this;omega
theorem Xfp {b : Nat} (hb : 0 < b) {W : List Nat} {j n : Nat} (h : lv b (W.drop j) < b ^ n) (hl : j + n ≤ W.length) : lv b (W.drop j) = lv b ((W.drop j).take n) ∧ lv b (W.drop (j + n)) = 0 := by
 have hs := Km b (W.drop j) n (by rw [List.length_drop]; omega)
 rw [List.drop_drop] at hs
 have hz : lv b (W.drop (j + n)) = 0 := by
  refine Nat.eq_zero_of_not_pos fun hp => ?_
  have := Nat.mul_le_mul_left (b ^ n) (show 1 ≤ lv b (W.drop (j + n)) from hp)
  omega
 refine ⟨?_, hz⟩;rw [hz, Nat.mul_zero, Nat.add_zero] at hs;exact hs
theorem Qpy {b : Nat} {l : List Nat} {i : Nat} (h : i < l.length) : lv b (l.drop i) = l.getD i 0 + b * lv b (l.drop (i + 1)) := by
 have e : l.drop i = l.getD i 0 :: l.drop (i + 1) := by
  rw [List.drop_eq_getElem_cons h]; simp [List.getD, h]
 rw [e]; rfl
theorem Xlm {b : Nat} (hb : 0 < b) {W : List Nat} {j n V : Nat} (hL : ∀ x ∈ W, x < b) (hV : V ≤ b ^ n) (hj : j + (n + 1) ≤ W.length) (hlt : lv b (W.drop (j + 1)) < V) :
  lv b (W.drop j) < b * V ∧ lv b (W.drop j) = lv b ((W.drop j).take (n + 1)) ∧ lv b (W.drop (j + (n + 1))) = 0 := by
 have h1 : lv b (W.drop j) < b * V := by
  rw [Qpy (by omega)]
  exact Xll (n := n) hb (by
   have hx : W.getD j 0 ∈ W := by simp [List.getD, show j < W.length by omega]
   exact hL _ hx) hlt
 have h2 : lv b (W.drop j) < b ^ (n + 1) := by
  rw [Nat.pow_succ, Nat.mul_comm];exact Nat.lt_of_lt_of_le h1 (Nat.mul_le_mul_left b hV)
 exact ⟨h1, Xfp hb h2 hj⟩
theorem Xfo {b : Nat} (hb : 0 < b) {W W2 Q : List Nat} {j n V A : Nat} (hL : ∀ x ∈ W, x < b) (hV : V ≤ b ^ n) (hV0 : 0 < V) (hj : j + (n + 1) ≤ W.length) (hlt : lv b (W.drop (j + 1)) < V) (hlen : W2.length = W.length) (hlo : W2.take j = W.take j) (hhi : W2.drop (j + (n + 1)) = W.drop (j + (n + 1)))
  (hp : lv b ((W2.drop j).take (n + 1)) = lv b (W.drop j) % V) (hQ : j < Q.length) (hinv : lv b (Q.drop (j + 1)) * (b ^ (j + 1) * V) + lv b W = A) :
  lv b ((Q.set j (lv b (W.drop j) / V)).drop j) * (b ^ j * V) + lv b W2 = A ∧ lv b (W2.drop j) < V := by
 obtain ⟨h1, h2, h3⟩ := Xlm hb hL hV hj hlt
 have e1 : lv b (W2.drop j) = lv b (W.drop j) % V := by
  rw [Km b (W2.drop j) (n + 1) (by rw [List.length_drop]; omega), List.drop_drop, hhi, h3, hp, Nat.mul_zero, Nat.add_zero]
 refine ⟨?_, by rw [e1]; exact Nat.mod_lt _ hV0⟩
 have e2 : lv b ((Q.set j (lv b (W.drop j) / V)).drop j) = lv b (W.drop j) / V + b * lv b (Q.drop (j + 1)) := by
  rw [Qpy (by rw [List.length_set]; exact hQ)]
  congr 1
  ·simp [List.getD, hQ]
  ·congr 2
   refine List.ext_getElem? fun k => ?_
   rw [List.getElem?_drop, List.getElem?_drop, List.getElem?_set_ne (by omega)]
 rw [e2, Km b W2 j (by omega), hlo, e1, ← hinv, Km b W j (by omega)]
 have hdm := Nat.div_add_mod (lv b (W.drop j)) V
 generalize lv b (W.drop j) / V = q at *;generalize lv b (W.drop j) % V = r at *;generalize lv b (Q.drop (j + 1)) = z at *;rw [← hdm, Nat.pow_succ, Nat.add_mul, Nat.mul_add]
 have a1 : b * z * (b ^ j * V) = z * (b ^ j * b * V) := by ac_rfl
 have a2 : q * (b ^ j * V) = b ^ j * (V * q) := by ac_rfl
 rw [a1, a2];omega
theorem Xi9 {V q w a b s : Nat} (hs : V = b * s) (hs0 : 0 < s) (hb : 0 < b) (h : q * V + w = a * s) (hw : w < V) : q = a / b ∧ w / s = a % b := by
 have hV : 0 < V := by omega
 have h1 : q = a * s / V := by
  rw [← h, Nat.mul_comm, Nat.mul_add_div hV, Nat.div_eq_of_lt hw, Nat.add_zero]
 have h2 : w = a * s % V := by
  rw [← h, Nat.mul_comm, Nat.mul_add_mod, Nat.mod_eq_of_lt hw]
 rw [hs, Nat.mul_div_mul_right _ _ hs0] at h1;rw [hs, Nat.mul_mod_mul_right] at h2;exact ⟨h1, by rw [h2, Nat.mul_div_cancel _ hs0]⟩
theorem Qpx {b : Nat} (hb : 0 < b) {l : List Nat} (h : ∀ x ∈ l, x < b) (m : Nat) : lv b (l.drop m) = lv b l / b ^ m := by
 by_cases hm : m ≤ l.length
 ·rw [Km b l m hm, Nat.add_comm, Nat.mul_add_div (Nat.pow_pos hb), Nat.div_eq_of_lt (Kl h m hm), Nat.add_zero]
 ·rw [List.drop_eq_nil_of_le (by omega)]
  have := Qfh h
  have h2 : b ^ l.length ≤ b ^ m := Nat.pow_le_pow_right hb (by omega)
  rw [Nat.div_eq_of_lt (by omega)]; rfl
theorem Xap (b : Nat) (l : List Nat) (k : Nat) : lv b (l ++ List.replicate k 0) = lv b l := by
 rw [Qd1]
 have : lv b (List.replicate k 0) = 0 := by
  induction k with
  | zero => rfl
  | succ k ih => rw [List.replicate_succ, lv, ih]; simp
 rw [this]; simp
theorem Xfq {x k s t : Nat} (hx : (dg 4294967296 x).length = k + 2) (ht : t = x / 4294967296 ^ (k + 1)) (hs : s = 32 - Yq t) :
  x * 2 ^ s < 4294967296 ^ (k + 2) ∧ 4294967296 ^ (k + 1) * 2147483648 ≤ x * 2 ^ s ∧ s ≤ 31 := by
 have h1 : x < 4294967296 ^ (k + 2) := hx ▸ Yh (by decide) x
 have h2 : 4294967296 ^ (k + 1) ≤ x := Nat.le_of_not_lt fun h => by
  have := Xe (b := 4294967296) (by decide) x _ h
  omega
 have hP : 0 < 4294967296 ^ (k + 1) := Nat.pow_pos (by decide)
 have t1 : 0 < t := by rw [ht]; exact Nat.div_pos h2 hP
 have t2 : t < 2 ^ 32 := by rw [ht, Nat.div_lt_iff_lt_mul hP, show (2 : Nat) ^ 32 = 4294967296 from rfl, Nat.mul_comm, ← Nat.pow_succ]; exact h1
 have b1 := Ju t2
 have b2 := Qlc t1
 have b3 := Qf1 t
 have b4 : 0 < Yq t := Nat.pos_of_ne_zero fun h => by rw [h] at b3; simp at b3; omega
 have hm := Nat.div_add_mod x (4294967296 ^ (k + 1))
 have hr := Nat.mod_lt x hP
 rw [← ht] at hm
 have hP2 : 4294967296 ^ (k + 2) = 4294967296 ^ (k + 1) * 4294967296 := Nat.pow_succ ..
 rw [hP2]
 clear hP2 h1
 generalize 4294967296 ^ (k + 1) = P at *;generalize x % P = r at *
 have e1 : 2 ^ Yq t * 2 ^ s = 4294967296 := by rw [← Nat.pow_add, hs, show Yq t + (32 - Yq t) = 32 by omega]
 have e2 : 2 ^ (Yq t - 1) * 2 ^ s = 2147483648 := by rw [← Nat.pow_add, hs, show Yq t - 1 + (32 - Yq t) = 31 by omega]
 refine ⟨?_, ?_, by omega⟩
 ·have c1 : x < P * 2 ^ Yq t := by
   have := Nat.mul_le_mul_left P (show t + 1 ≤ 2 ^ Yq t from b3)
   rw [Nat.mul_add, Nat.mul_one] at this;omega
  have c2 := Nat.mul_lt_mul_of_pos_right c1 (Nat.two_pow_pos s)
  rw [Nat.mul_assoc, e1] at c2;exact c2
 ·have c1 : P * 2 ^ (Yq t - 1) ≤ x := by
   have := Nat.mul_le_mul_left P b2
   omega
  have c2 := Nat.mul_le_mul_right (2 ^ s) c1
  rw [Nat.mul_assoc, e2] at c2;exact c2
theorem Xb3 {B a la n s V b : Nat} (hB : 0 < B) (hla : a < B ^ la) (hn : 0 < n) (hnl : n ≤ la) (hb : B ^ (n - 1) ≤ b) (hV : V = b * 2 ^ s) : a * 2 ^ s / B ^ (la - n + 1) < V := by
 rw [Nat.div_lt_iff_lt_mul (Nat.pow_pos hB)]
 have e : B ^ la = B ^ (n - 1) * B ^ (la - n + 1) := by rw [← Nat.pow_add]; congr 1; omega
 have c1 : a * 2 ^ s < B ^ la * 2 ^ s := Nat.mul_lt_mul_of_pos_right hla (Nat.two_pow_pos s)
 have c2 : B ^ (n - 1) * 2 ^ s ≤ V := by rw [hV]; exact Nat.mul_le_mul_right _ hb
 have c3 := Nat.mul_le_mul_right (B ^ (la - n + 1)) c2
 rw [e] at c1
 have : B ^ (n - 1) * B ^ (la - n + 1) * 2 ^ s = B ^ (n - 1) * 2 ^ s * B ^ (la - n + 1) := by ac_rfl
 omega
def Qdb {α : Type} (g : α → V × V × V) (xs : List α) : List V := xs.flatMap fun x => [(g x).1, (g x).2.1, (g x).2.2]
theorem Qhp {α : Type} (g : α → V × V × V) (xs : List α) : (Qdb g xs).length = xs.length * 3 := by
 induction xs with
 | nil => rfl
 | cons x xs ih => simp only [Qdb, List.flatMap_cons, List.length_append, List.length_cons, List.length_nil] at ih ⊢; rw [ih]; omega
theorem Qgn {α : Type} (g : α → V × V × V) (x : α) (xs : List α) : Qdb g (x :: xs) = (g x).1 :: (g x).2.1 :: (g x).2.2 :: Qdb g xs := rfl
theorem Qem {α : Type} (g : α → V × V × V) (xs ys : List α) : Qdb g (xs ++ ys) = Qdb g xs ++ Qdb g ys := by simp [Qdb]
theorem Qba {α : Type} (g : α → V × V × V) (d : α) : ∀ (xs : List α) (i : Nat), i < xs.length → nth (Qdb g xs) (i * 3) = (g (xs.getD i d)).1 ∧ nth (Qdb g xs) (i * 3 + 1) = (g (xs.getD i d)).2.1 ∧ nth (Qdb g xs) (i * 3 + 2) = (g (xs.getD i d)).2.2
 | [], i, h => by simp at h
 | x :: xs, 0, h => ⟨rfl, rfl, rfl⟩
 | x :: xs, i + 1, h => by
  have := Qba g d xs i (by simpa using h)
  rw [Qgn, show (i + 1) * 3 = i * 3 + 3 by omega]
  simpa [nth, List.getD] using this
theorem Qti {α : Type} {g : α → V × V × V} {xs : List α} (h : ∀ x, clo (g x).1 = true ∧ clo (g x).2.1 = true ∧ clo (g x).2.2 = true) : Qi (Qdb g xs) = true := by
 induction xs with
 | nil => rfl
 | cons x xs ih => rw [Qgn]; simp [Qi, h x, ih]
structure Tn where
 shape : List Int
 el : List Raw
structure Tq where
 shape : List Int
 el : List Rq
structure TnOK (t : Tn) : Prop where
 s : t.shape.length ≤ 1000000000
 e : t.el.length ≤ 1000000000
 r : ∀ x ∈ t.el, RawOK x
structure TqOK (t : Tq) : Prop where
 s : t.shape.length ≤ 1000000000
 e : t.el.length ≤ 1000000000
 r : ∀ x ∈ t.el, RqOK x
def r0 : Raw := ⟨false, [], []⟩
def q0 : Rq := ⟨false, 0, 1⟩
def Qao (t : Tn) : Tq := ⟨t.shape, t.el.map Xc⟩
def Jq (t : Tq) : Tn := ⟨t.shape, t.el.map Qz⟩
theorem TnOK.of {t : Tn} (h : TnOK t) : TqOK (Qao t) := ⟨h.s, by simpa [Qao] using h.e, fun x hx => by
 simp only [Qao, List.mem_map] at hx;obtain ⟨y, hy, rfl⟩ := hx;exact (h.r y hy).val⟩
theorem TnOK.get {t : Tn} (h : TnOK t) {i : Nat} (hi : i < t.el.length) : RawOK (t.el.getD i r0) := h.r _ (by simp [List.getD, hi])
theorem TqOK.get {t : Tq} (h : TqOK t) {i : Nat} (hi : i < t.el.length) : RqOK (t.el.getD i q0) := h.r _ (by simp [List.getD, hi])
theorem Qh4 {α : Type} (l : List α) (d : α) {i : Nat} (h : i < l.length) : l.take (i + 1) = l.take i ++ [l.getD i d] := by
 rw [List.take_add_one]; congr 1; simp [List.getD, h]
end Go.Bv
end
section
namespace Go.Proofs.YtjdbdmhjakfldaaGreat
open Go.Bv
theorem Qg0 (l : List Nat) (hl : l.length ≤ 17592186044416) : Pu C 156 [.sl l.length (Xa .u32 l)] (.int .i64 (Xx l : Nat)) := by
 refine Fc.keep (Fc.bodyT Qe Tryz.func156 w156 rfl Tryz.ntmps156 Tryz.results156 (zLe rfl) ?_)
 (apply Zo;repeat' ((with_reducible first|apply Zk|(first|apply Za|apply Zb|apply Zc|apply Zd)<;>intro h)<;>try simp -implicitDefEqProofs (maxSteps:=9^7) (disch:=first|omega|(simp only [Qb];omega)) only [go_sem]))
 refine Qf (fun n ts H => ∃ m, (m ≤ l.length) ∧ (Xx (l.take m) = Xx l) ∧ (n = m) ∧ (H = []) ∧ ts.length = 19 ∧ nth ts 0 = .sl l.length (Xa .u32 l) ∧ nth ts 3 = .int .i64 (m : Nat)) ?_ (n := l.length) ?_
 ·skip
  rintro n ts H ⟨m, hm, ht, hn, hH, hL, hs0, hs3⟩;refine Qv [(0, .sl l.length (Xa .u32 l)), (3, .int .i64 (m : Nat))] hL (by simp only [zFm, hs0, hs3, true_and]; exact zNm) ?_
  clear hL hs0 hs3 ts
  refine Qu Qe ?_;subst hH hn
  (apply Zo;repeat' ((with_reducible first|apply Zk|(first|apply Za|apply Zb|apply Zc|apply Zd)<;>intro h)<;>try simp -implicitDefEqProofs (maxSteps:=9^7) (disch:=first|omega|(simp only [Qb];omega)) only [go_sem]))
  ·rename_i h0;obtain ⟨m, rfl⟩ : ∃ m, n = m + 1 := ⟨n - 1, by omega⟩
   rw [Kt (by omega)] at ht
   simp only [Nat.add_sub_cancel] at h;rw [if_pos (by omega)] at ht
   exact ⟨m, by omega, m, by omega, ht, rfl, by congr 1; omega⟩
  ·rename_i h0
   (refine Qo (by intro g; simp only [go_sem, ren, Ql]) ?_)
   obtain ⟨m, rfl⟩ : ∃ m, n = m + 1 := ⟨n - 1, by omega⟩
   rw [Kt (by omega)] at ht
   simp only [Nat.add_sub_cancel] at h;rw [if_neg (by omega)] at ht
   rw [← ht]
  ·skip
   (refine Qo (by intro g; simp only [go_sem, ren, Ql]) ?_)
   obtain rfl : n = 0 := by omega
   rw [← ht]; rfl
 ·exact ⟨l.length, Nat.le_refl _, by rw [List.take_length], rfl, rfl, rfl, rfl, rfl⟩
def Xm (l : List Nat) (i : Int) : Nat := if 0 ≤ i then l.getD i.toNat 0 else 0
theorem Jm {l : List Nat} (h : Lim l) (i : Int) : Xm l i < 4294967296 := by
 unfold Xm; split
 ·exact h.get _
 ·omega
theorem Jl (l : List Nat) (i : Int) (hl : l.length ≤ 17592186044416) (hL : Lim l) : Pu C 137 [.sl l.length (Xa .u32 l), .int .i64 i] (.int .u64 (Xm l i : Nat)) := by
 refine Fc.keep (Fc.bodyT Qe Tryz.func137 w137 rfl Tryz.ntmps137 Tryz.results137 (zLe rfl) ?_)
 (apply Zo;repeat' ((with_reducible first|apply Zk|(first|apply Za|apply Zb|apply Zc|apply Zd)<;>intro h)<;>try simp -implicitDefEqProofs (maxSteps:=9^7) (disch:=first|omega|(simp only [Qb];omega)) only [go_sem]))
 ·skip
  (refine Qo (by intro g; simp only [go_sem, ren, Ql]) ?_)
  simp only [Xm];rw [if_neg (by omega)]; rfl
 ·skip
  (refine Qo (by intro g; simp only [go_sem, ren, Ql]) ?_)
  simp only [Xm];rw [if_pos (by omega)]
  simp [List.getD, List.getElem?_eq_none (show l.length ≤ i.toNat by omega)]
 ·have := hL.get i.toNat
  (apply Zo;repeat' ((with_reducible first|apply Zk|(first|apply Za|apply Zb|apply Zc|apply Zd)<;>intro h)<;>try simp -implicitDefEqProofs (maxSteps:=9^7) (disch:=first|omega|(simp only [Qb];omega)) only [go_sem]))
  (refine Qo (by intro g; simp only [go_sem, ren, Ql]) ?_)
  simp only [Xm];rw [if_pos (by omega)]
def Xgd (ro rc : Nat) (H : Qa) (v : V) (l : List Nat) (c : Nat) : Prop :=
 Qd H ro = some ⟨56, 1, [v]⟩ ∧ Qd H rc = some ⟨142, 1, [.int .u64 (c : Nat)]⟩ ∧ Bv.Own 59 1 H v l.length (Xa .u32 l)
theorem Qjs {x : Nat} : IntKind.wrap .u32 (x : Int) = ((x % 4294967296 : Nat) : Int) := by rw [Qc5]; omega
theorem Qar (x k : Nat) : (x : Int).fdiv (2 ^ k) = ((x / 2 ^ k : Nat) : Int) := by
 rw [Int.fdiv_eq_ediv_of_nonneg _ (Int.pow_nonneg (by decide)), Int.natCast_ediv, Int.natCast_pow]; rfl
theorem Qo8 {ro rc : Nat} {H : Qa} {v : V} {l : List Nat} {c x : Nat} (h : Xgd ro rc H v l c) (hx : x < 18446744073709551616) (hl : l.length < 17592186044416) :
  Fc C 159 [.int .u64 (x : Nat), .ptr ro 0, .ptr rc 0] H fun u H' => u = .tup [] ∧ Xgd ro rc H' (.ref (H.length + 1) 0 (l.length + 1)) (l ++ [x % 4294967296]) (x / 4294967296) ∧ H'.length = H.length + 2 ∧ ∀ q row, q ≠ ro → q ≠ rc → (∀ off m, v ≠ .ref q off m) → Qd H q = some row → Qd H' q = some row := by
 obtain ⟨h1, h2, h3⟩ := h
 have n1 := h3.not h1 (by decide)
 have n2 := h3.not h2 (by decide)
 have hne : ro ≠ rc := fun e => by subst e; rw [h1] at h2; simp at h2
 refine Fc.bodyT Qe Tryz.func159 w159 rfl Tryz.ntmps159 Tryz.results159 (zLe rfl) ?_
 (apply Zo;repeat' ((with_reducible first|apply Zk|(first|apply Za|apply Zb|apply Zc|apply Zd)<;>intro h)<;>try simp -implicitDefEqProofs (maxSteps:=9^7) (disch:=first|omega|(simp only [Qb];omega)) only [go_sem, h1, h2]))
 refine Qhw h3 (by simp [t59size]) (by simp [Yr]) (by simp [t59size]) (by simp [t59bytes]) (by simp only [t59bytes]; omega) (Qdy _ _) fun H' k1 k2 k3 => ?_
 have e1 := k2 ro _ n1 h1
 have e2 := k2 rc _ n2 h2
 have e3 : ∀ z, Qd (H'.set ro z) rc = some ⟨142, 1, [.int .u64 (c : Nat)]⟩ := fun z => by rw [Qh z hne]; exact e2
 (apply Zo;repeat' ((with_reducible first|apply Zk|(first|apply Za|apply Zb|apply Zc|apply Zd)<;>intro h)<;>try simp -implicitDefEqProofs (maxSteps:=9^7) (disch:=first|omega|(simp only [Qb];omega)) only [go_sem, e1, e3]))
 have e4 : ((x : Int).fdiv (2 ^ min 32 64)) = ((x / 4294967296 : Nat) : Int) := by rw [Qar]; rfl
 have l2 : ro < H'.length := Xg e1
 have l3 : rc < H'.length := Xg e2
 have far : ∀ q row z y, q ≠ ro → q ≠ rc → Qd H' q = some row → Qd ((H'.set ro z).set rc y) q = some row := fun q row z y h1 h2 h3 => by
  rw [Qh _ (Ne.symm h2), Qh _ (Ne.symm h1)]; exact h3
 refine ⟨⟨?_, ?_, ?_⟩, k3, fun q row q1 q2 q3 q4 => far q row _ _ q1 q2 (k2 q row q3 q4)⟩
 ·rw [Qh _ (Ne.symm hne), Qg e1]
 ·rw [Qg (row := ⟨142, 1, [.int .u64 (c : Nat)]⟩) (e3 _), e4]
 ·rcases k1 with ⟨k, _⟩ | ⟨r, k4, k5, k6⟩
  ·cases k
  ·injection k4 with k4
   subst k4;refine .inr ⟨_, by rw [List.length_append]; rfl, ?_, by simp [Yg]⟩
   rw [Qja];refine far _ _ _ _ ?_ ?_ ?_
   ·intro e; rw [e, e1] at k5; simp at k5
   ·intro e; rw [e, e2] at k5; simp at k5
   ·rw [k5]; simp only [t59size, Xa, List.map_cons, List.map_nil, Qjs]
def wr (st : Option Nat) (H : Qa) (row : Row) : Qa := match st with
 | none => H
 | some q => H.set q (some row)
def er (st : Option Nat) (H : Qa) : Qa := match st with
 | none => H
 | some q => H.set q none
theorem Xi7 {st : Option Nat} {H : Qa} {q : Nat} (h : st ≠ some q) : Qd (er st H) q = Qd H q := by
 cases st with
 | none => rfl
 | some s => exact Qh _ fun e => h (by rw [e])
theorem Qm1 {st : Option Nat} {H : Qa} {q : Nat} (row : Row) (h : st ≠ some q) : Qd (wr st H row) q = Qd H q := by
 cases st with
 | none => rfl
 | some s => exact Qh _ fun e => h (by rw [e])
theorem Xg3 (st : Option Nat) (H : Qa) (row : Row) : (wr st H row).length = H.length := by cases st <;> simp [wr]
theorem Xdj {st : Option Nat} {H : Qa} {q : Nat} {row row' : Row} (h : st = some q) (hr : Qd H q = some row) : Qd (wr st H row') q = some row' := by
 subst h; exact Qg hr
theorem Quw (st : Option Nat) (H : Qa) (row : Row) : Same (er st H) (wr st H row) := by
 cases st with
 | none => exact .refl _
 | some s =>
  intro r x hr;by_cases e : s = r
  ·subst e
   have : Qd (H.set s none) s = none := by simp [Qd, List.getElem?_set]
   simp only [er, this] at hr; cases hr
  ·simp only [er, wr] at hr ⊢; rw [Qh _ e] at hr ⊢; exact hr
theorem Xli (st : Option Nat) (H : Qa) : Same (er st H) H := by
 cases st with
 | none => exact .refl _
 | some s =>
  intro r x hr;by_cases e : s = r
  ·subst e
   have : Qd (H.set s none) s = none := by simp [Qd, List.getElem?_set]
   simp only [er, this] at hr; cases hr
  ·simp only [er] at hr; rw [Qh _ e] at hr; exact hr
def AtC (f : Nat) (caps : List V) (st : Option Nat) (B : Qa) (rs : Nat → Row) (n : Nat) (xs : Nat → Nat) : Prop :=
 ∀ i, i < n → ∀ H : Qa, (∀ q row, st ≠ some q → Qd B q = some row → Qd H q = some row) → (∀ q, st = some q → Qd H q = some (rs i)) →
  Fc C f (.int .i64 (i : Nat) :: caps) H fun v H' => v = .int .u64 (xs i : Nat) ∧ H' = wr st H (rs (i + 1))
def XS (xs : Nat → Nat) (n : Nat) : List Nat := (List.range n).map xs
theorem Xcz (xs : Nat → Nat) (n : Nat) : (XS xs n).length = n := by simp [XS]
theorem Qvb (xs : Nat → Nat) (n : Nat) : XS xs (n + 1) = XS xs n ++ [xs n] := by simp [XS, List.range_succ]
theorem Qb3 (b : Nat) (xs : Nat → Nat) (n : Nat) : lv b (XS xs (n + 1)) = lv b (XS xs n) + b ^ n * xs n := by rw [Qvb, Ke, Xcz]
theorem Qo7 {b V x c : Nat} {l : List Nat} (h : lv b l + b ^ l.length * c = V) (e : x % b + b * (x / b) = x) : lv b (l ++ [x % b]) + b ^ (l ++ [x % b]).length * (x / b) + b ^ l.length * c = V + b ^ l.length * x := by
 rw [Ke, List.length_append, List.length_cons, List.length_nil, Nat.zero_add, Nat.pow_succ, ← h]
 have : b ^ l.length * x = b ^ l.length * (x % b) + b ^ l.length * b * (x / b) := by
  rw [Nat.mul_assoc, ← Nat.mul_add, e]
 omega
structure Gat (st : Option Nat) (B : Qa) (rs : Nat → Row) (i : Nat) (H : Qa) (v : V) (l : List Nat) (c : Nat) : Prop where
 put : Xgd B.length (B.length + 1) H v l c
 far : v = .nil ∨ ∃ r m, v = .ref r 0 m ∧ B.length + 2 ≤ r
 base : ∀ q row, st ≠ some q → Qd B q = some row → Qd H q = some row
 state : ∀ q, st = some q → Qd H q = some (rs i)
 len : B.length + 2 ≤ H.length
 lim : Lim l
theorem Gat.next {st : Option Nat} {B : Qa} {rs : Nat → Row} {i : Nat} {H : Qa} {v : V} {l : List Nat} {c x : Nat} (h : Gat st B rs i H v l c) (hst : ∀ q, st = some q → q < B.length) {H' : Qa}
  (h1 : Xgd B.length (B.length + 1) H' (.ref (H.length + 1) 0 (l.length + 1)) (l ++ [x % 4294967296]) (x / 4294967296)) (h2 : H'.length = H.length + 2) (h3 : ∀ q row, q ≠ B.length → q ≠ B.length + 1 → (∀ off m, v ≠ .ref q off m) → Qd H q = some row → Qd H' q = some row) :
  Gat st B rs i H' (.ref (H.length + 1) 0 (l.length + 1)) (l ++ [x % 4294967296]) (x / 4294967296) := by
 have hf : ∀ q, q < B.length → ∀ off m, v ≠ .ref q off m := fun q hq off m e => by
  rcases h.far with h | ⟨r, k, h, hr⟩
  ·rw [h] at e; cases e
  ·rw [h] at e; injection e with e; omega
 have hl := h.len
 refine ⟨h1, .inr ⟨_, _, rfl, by omega⟩, fun q row hq hr => ?_, fun q hq => ?_, by omega, fun y hy => ?_⟩
 ·have hlt := Xg hr
  exact h3 q row (by omega) (by omega) (hf q hlt) (h.base q row hq hr)
 ·have hlt := hst q hq
  exact h3 q _ (by omega) (by omega) (hf q hlt) (h.state q hq)
 ·rcases List.mem_append.1 hy with hy | hy
  ·exact h.lim y hy
  ·simp at hy; rw [hy]; exact Nat.mod_lt _ (by decide)
theorem Gat.wr {st : Option Nat} {B : Qa} {rs : Nat → Row} {i : Nat} {H : Qa} {v : V} {l : List Nat} {c : Nat} (h : Gat st B rs i H v l c) (hst : ∀ q, st = some q → q < B.length) : Gat st B rs (i + 1) (Proofs.YtjdbdmhjakfldaaGreat.wr st H (rs (i + 1))) v l c := by
 have hne : ∀ q, B.length ≤ q → st ≠ some q := fun q hq e => by have := hst q e; omega
 refine ⟨⟨by rw [Qm1 _ (hne _ (by omega))]; exact h.put.1, by rw [Qm1 _ (hne _ (by omega))]; exact h.put.2.1, ?_⟩, h.far, fun q row hq hr => by rw [Qm1 _ hq]; exact h.base q row hq hr, fun q hq => Xdj hq (h.state q hq), by rw [Xg3]; exact h.len, h.lim⟩
 rcases h.put.2.2 with k | ⟨r, k1, k2, k3⟩
 ·exact .inl k
 ·refine .inr ⟨r, k1, ?_, k3⟩;rcases h.far with k4 | ⟨r', m, k4, k5⟩
  ·rw [k4] at k1; cases k1
  ·rw [k4] at k1; injection k1 with k1; rw [Qm1 _ (hne _ (by omega))]; exact k2
def Xls (st : Option Nat) (B : Qa) (row : Row) (v : V) (H : Qa) (x : Nat) : Prop :=
 IsZ 59 1 H v (dg 4294967296 x).length (Xa .u32 (dg 4294967296 x)) ∧ (∀ q row, st ≠ some q → Qd B q = some row → Qd H q = some row) ∧ (∀ q, st = some q → Qd H q = some row)
theorem Qny {st : Option Nat} {B : Qa} {rs : Nat → Row} {i : Nat} {H : Qa} {v w : V} {l : List Nat} {x : Nat} (hst : ∀ q, st = some q → q < B.length) (h : Gat st B rs i H v l 0) (hv : lv 4294967296 l = x) (hw : (w = .nil ∧ Xx l = 0) ∨ (w = .sl 0 [] ∧ Xx l = 0) ∨ ∃ r, v = .ref r 0 l.length ∧ w = .ref r 0 (Xx l)) :
  ∃ H2, Shorter H H2 ∧ Xls st B (rs i) w H2 x := by
 have hd : dg 4294967296 x = l.take (Xx l) := by rw [← hv]; exact Qjf (by decide) h.lim
 rcases hw with ⟨rfl, h0⟩ | ⟨rfl, h0⟩ | ⟨r, hr, rfl⟩
 ·refine ⟨H, .refl H, .inr ?_, h.base, h.state⟩;rw [hd, h0]; exact .inl ⟨rfl, rfl, rfl⟩
 ·refine ⟨H, .refl H, .inl ?_, h.base, h.state⟩;rw [hd, h0]; exact ⟨rfl, rfl, rfl⟩
 ·have hO := h.put.2.2
  rcases hO with ⟨k, _⟩ | ⟨q, k1, k2, k3⟩
  ·rw [k] at hr; cases hr
  ·rw [k1] at hr;injection hr with hr
   subst hr
   have hfar : B.length + 2 ≤ q := by
    rcases h.far with k4 | ⟨r', m, k4, k5⟩
    ·rw [k4] at k1; cases k1
    ·rw [k4] at k1; injection k1 with k1; omega
   refine ⟨_, Shorter.set k2 (Xx l), .inr (.inr ⟨q, ?_, ?_, ?_⟩), fun p row hp hrow => ?_, fun p hp => ?_⟩
   ·rw [hd, List.length_take, Nat.min_eq_left (Qab l)]
   ·rw [Qg k2, hd, Qii]
   ·simp [Yg]
   ·rw [Qh _ (by have := Xg hrow; omega)]; exact h.base p row hp hrow
   ·rw [Qh _ (by have := hst p hp; omega)]; exact h.state p hp
theorem Qfm {f : Nat} {caps : List V} {st : Option Nat} {B : Qa} {rs : Nat → Row} {N : Nat} {xs : Nat → Nat} (hst : ∀ q, st = some q → q < B.length) (hs0 : ∀ q, st = some q → Qd B q = some (rs 0)) (hN : N ≤ 8796093022208) (hx : ∀ i, i < N → xs i < 9223372036854775808) (ha : AtC f caps st B rs N xs) :
  Fc C 133 [.int .i64 (N : Nat), .fn (.func f) [] caps] B fun v H => Xls st B (rs N) v H (lv 4294967296 (XS xs N)) := by
 refine Fc.trim ?_;refine Fc.bodyT Qe Tryz.func133 w133 rfl Tryz.ntmps133 Tryz.results133 (zLe rfl) ?_
 (apply Zo;repeat' ((with_reducible first|apply Zk|(first|apply Za|apply Zb|apply Zc|apply Zd)<;>intro h)<;>try simp -implicitDefEqProofs (maxSteps:=9^7) (disch:=first|omega|(simp only [Qb];omega)) only [go_sem]))
 refine Qf (fun n ts H => ∃ (i : Nat) (l : List Nat) (c : Nat) (v : V), (i ≤ N) ∧ (Gat st B rs i H v l c) ∧ (l.length = i) ∧ (lv 4294967296 l + 4294967296 ^ l.length * c = lv 4294967296 (XS xs i)) ∧ (c < 4294967296) ∧ (n = N - i) ∧ ts.length = 31 ∧ nth ts 0 = .int .i64 (N : Nat) ∧ nth ts 1 = .fn (.func f) [] caps ∧ nth ts 5 = .ptr B.length 0 ∧ nth ts 6 = .ptr (B.length + 1) 0 ∧ nth ts 7 = .fn (.func 159) [] [.ptr B.length 0, .ptr (B.length + 1) 0] ∧ nth ts 10 = .int .i64 (N : Nat) ∧ nth ts 11 = .int .i64 (i : Nat)) ?_ (n := N) ?_
 ·skip
  rintro n ts H ⟨i, l, c, v, hi, hG, hli, hlv, hc, hn, hL, hs0, hs1, hs5, hs6, hs7, hs10, hs11⟩;refine Qv [(0, .int .i64 (N : Nat)), (1, .fn (.func f) [] caps), (5, .ptr B.length 0), (6, .ptr (B.length + 1) 0), (7, .fn (.func 159) [] [.ptr B.length 0, .ptr (B.length + 1) 0]), (10, .int .i64 (N : Nat)), (11, .int .i64 (i : Nat))] hL (by simp only [zFm, hs0, hs1, hs5, hs6, hs7, hs10, hs11, true_and]; exact zNm) ?_
  clear hL hs0 hs1 hs5 hs6 hs7 hs10 hs11 ts
  refine Qu Qe ?_
  have hne : ∀ q, B.length ≤ q → st ≠ some q := fun q hq e => by have := hst q e; omega
  have hp1 := hG.put.1
  have hp2 := hG.put.2.1
  (apply Zo;repeat' ((with_reducible first|apply Zk|(first|apply Za|apply Zb|apply Zc|apply Zd)<;>intro h)<;>try simp -implicitDefEqProofs (maxSteps:=9^7) (disch:=first|omega|(simp only [Qb];omega)) only [go_sem]))
  ·have hiN : i < N := by omega
   have hxi := hx i hiN
   refine ⟨er st H, Xli st H, ?_⟩
   have hp3 : Qd (er st H) (B.length + 1) = some ⟨142, 1, [.int .u64 (c : Nat)]⟩ := by rw [Xi7 (hne _ (by omega))]; exact hp2
   (apply Zo;repeat' ((with_reducible first|apply Zk|(first|apply Za|apply Zb|apply Zc|apply Zd)<;>intro h)<;>try simp -implicitDefEqProofs (maxSteps:=9^7) (disch:=first|omega|(simp only [Qb];omega)) only [go_sem]))
   refine Pc.gen (ha i hiN H hG.base hG.state) ⟨_, _, rfl, rfl⟩ ?_;rintro v1 H1 ⟨rfl, rfl⟩;refine ⟨⟨fun h => Quw st H _, fun h => (Quw st H _).stand⟩, ?_⟩
   have hG1 := hG.wr hst
   (apply Zo;repeat' ((with_reducible first|apply Zk|(first|apply Za|apply Zb|apply Zc|apply Zd)<;>intro h)<;>try simp -implicitDefEqProofs (maxSteps:=9^7) (disch:=first|omega|(simp only [Qb];omega)) only [go_sem, hp3]))
   have e1 : ((xs i : Nat) : Int) + ((c : Nat) : Int) = ((xs i + c : Nat) : Int) := by omega
   rw [e1];refine (Qo8 hG1.put (by omega) (by omega)).mono ?_
   rintro u H2 ⟨rfl, k1, k2, k3⟩
   (apply Zo;repeat' ((with_reducible first|apply Zk|(first|apply Za|apply Zb|apply Zc|apply Zd)<;>intro h)<;>try simp -implicitDefEqProofs (maxSteps:=9^7) (disch:=first|omega|(simp only [Qb];omega)) only [go_sem]))
   have hG2 := hG1.next hst k1 k2 k3
   have hst2 := Qo7 (x := xs i + c) hlv (Nat.mod_add_div _ _)
   refine ⟨_, by omega, i + 1, _, _, _, by omega, hG2, by simp [hli], ?_, by omega, rfl, by congr 1⟩
   rw [Qb3];simp only [List.length_append, List.length_cons, List.length_nil, Nat.zero_add, hli, Nat.mul_add] at hst2 ⊢;omega
  ·obtain rfl : i = N := by omega
   refine Qf (fun n ts H => ∃ (l : List Nat) (c : Nat) (v : V), (Gat st B rs i H v l c) ∧ (l.length ≤ i ∨ c = 0) ∧ (l.length ≤ i + 1) ∧ (lv 4294967296 l + 4294967296 ^ l.length * c = lv 4294967296 (XS xs i)) ∧ (c < 4294967296) ∧ (n = c) ∧ ts.length = 31 ∧ nth ts 5 = .ptr B.length 0 ∧ nth ts 6 = .ptr (B.length + 1) 0 ∧ nth ts 7 = .fn (.func 159) [] [.ptr B.length 0, .ptr (B.length + 1) 0]) ?_ (n := c) ?_
   ·skip
    rintro n ts H ⟨l, c, v, hG, hll, hl2, hlv, hc, hn, hL, hs5, hs6, hs7⟩;refine Qv [(5, .ptr B.length 0), (6, .ptr (B.length + 1) 0), (7, .fn (.func 159) [] [.ptr B.length 0, .ptr (B.length + 1) 0])] hL (by simp only [zFm, hs5, hs6, hs7, true_and]; exact zNm) ?_
    clear hL hs5 hs6 hs7 ts
    refine Qu Qe ?_
    have hp1 := hG.put.1
    have hp2 := hG.put.2.1
    (apply Zo;repeat' ((with_reducible first|apply Zk|(first|apply Za|apply Zb|apply Zc|apply Zd)<;>intro h)<;>try simp -implicitDefEqProofs (maxSteps:=9^7) (disch:=first|omega|(simp only [Qb];omega)) only [go_sem, hp1, hp2]))
    ·refine (Qo8 (x := c) hG.put (by omega) (by omega)).mono ?_
     rintro u H2 ⟨rfl, k1, k2, k3⟩
     (apply Zo;repeat' ((with_reducible first|apply Zk|(first|apply Za|apply Zb|apply Zc|apply Zd)<;>intro h)<;>try simp -implicitDefEqProofs (maxSteps:=9^7) (disch:=first|omega|(simp only [Qb];omega)) only [go_sem]))
     have hG2 := hG.next hst k1 k2 k3
     have hst2 := Qo7 hlv (Nat.mod_add_div c 4294967296)
     have e0 : c / 4294967296 = 0 := Nat.div_eq_of_lt hc
     refine ⟨c / 4294967296, by omega, _, _, _, hG2, .inr e0, by simp; omega, ?_, by omega, rfl⟩
     omega
    ·obtain rfl : c = 0 := by omega
     have hO := hG.put.2.2
     refine Pc.pureL (Qg0 l (by omega)) ⟨hO.bor' (Qk _ _), trivial⟩ (by intro g; simp only [go_sem, ren]) rfl ?_
     (apply Zo;repeat' ((with_reducible first|apply Zk|(first|apply Za|apply Zb|apply Zc|apply Zd)<;>intro h)<;>try simp -implicitDefEqProofs (maxSteps:=9^7) (disch:=first|omega|(simp only [Qb];omega)) only [go_sem, hp1, hp2]))
     have hlv' : lv 4294967296 l = lv 4294967296 (XS xs i) := by simpa using hlv
     refine Qe0 hO (by simp [t59ok]) (by simp [t59size]) (Qab l) (fun h0 hv => ?_) (fun h0 hv => ?_) (fun r h0 hv => ?_)
     ·skip
      (apply Zo;repeat' ((with_reducible first|apply Zk|(first|apply Za|apply Zb|apply Zc|apply Zd)<;>intro h)<;>try simp -implicitDefEqProofs (maxSteps:=9^7) (disch:=first|omega|(simp only [Qb];omega)) only [go_sem]))
      exact Qny hst hG hlv' (.inl ⟨rfl, h0⟩)
     ·skip
      (apply Zo;repeat' ((with_reducible first|apply Zk|(first|apply Za|apply Zb|apply Zc|apply Zd)<;>intro h)<;>try simp -implicitDefEqProofs (maxSteps:=9^7) (disch:=first|omega|(simp only [Qb];omega)) only [go_sem]))
      exact Qny hst hG hlv' (.inr (.inl ⟨rfl, h0⟩))
     ·skip
      (apply Zo;repeat' ((with_reducible first|apply Zk|(first|apply Za|apply Zb|apply Zc|apply Zd)<;>intro h)<;>try simp -implicitDefEqProofs (maxSteps:=9^7) (disch:=first|omega|(simp only [Qb];omega)) only [go_sem]))
      exact Qny hst hG hlv' (.inr (.inr ⟨r, hv, rfl⟩))
   ·exact ⟨l, c, v, hG, by omega, by omega, hlv, hc, rfl, rfl, rfl, rfl, rfl⟩
 ·refine ⟨0, [], 0, .nil, by omega, ⟨⟨?_, ?_, .inl ⟨rfl, rfl, rfl⟩⟩, .inl rfl, ?_, ?_, ?_, ?_⟩, rfl, rfl, by omega, by omega, rfl, rfl, rfl, rfl, rfl, rfl, rfl, rfl⟩
  ·simp [Qd]
  ·simp [Qd]
  ·exact fun q row _ hr => Qj hr _
  ·exact fun q hq => Qj (hs0 q hq) _
  ·simp
  ·exact fun x hx => nomatch hx
def B32 : Nat := 4294967296
def NA (l : List Nat) : V := .sl l.length (Xa .u32 l)
def Ye (x : Nat) : V := NA (dg B32 x)
attribute [go_sem] NA Ye
theorem Xp (x : Nat) : Lim (dg B32 x) := Quz (by decide) x
theorem Xf (x : Nat) : lv B32 (dg B32 x) = x := Qks (by decide) x
theorem Xl (l : List Nat) : clo (NA l) = true := by simp [NA, clo, Qk]
theorem Xh3 (g : Nat → Option Nat) (l : List Nat) : ren g (NA l) = NA l := by simp [NA, ren, Jy]
def Qjr (v : V) (H : Qa) (x : Nat) : Prop := RetZ 59 1 H v (dg B32 x).length (Xa .u32 (dg B32 x))
def IsN (v : V) (H : Qa) (x : Nat) : Prop := IsZ 59 1 H v (dg B32 x).length (Xa .u32 (dg B32 x))
theorem IsN.ret {v : V} {H : Qa} {x : Nat} (h : IsN v H x) : ∃ sel, Qd2 sel (fun v H => Qjr v H x) v H := IsZ.ret h (fun g => Jy _ g _) fun v H h => h
theorem Fc.byN {f : FuncId} {args args' : List V} {H : Qa} {K : V → Qa → Prop} {x : Nat} (h : Fc C f args' [] fun v H => Qjr v H x) (hb : BorL H args args') (hK : K (Ye x) H) : Fc C f args H K := Fc.byZ h hb (Qk _ _) (Xz _ _) hK
theorem Fc.isN {f : FuncId} {args args' : List V} {H : Qa} {K : V → Qa → Prop} {x : Nat} (h : Fc C f args' [] fun v H => Qjr v H x) (hb : BorL H args args') (hK : ∀ v X, IsN v (H ++ X) x → K v (H ++ X)) : Fc C f args H K := Fc.isZ h hb (fun g => Jy _ g _) (Xz _ _) hK
theorem Pc.isN {H0 : Qa} {f : FuncId} {args args' : List V} {H : Qa} {K : V → Qa → Prop} {x : Nat} (h : Fc C f args' [] fun v H => Qjr v H x) (hb : BorL H args args') (hK : ∀ v X, IsN v (H ++ X) x → K v (H ++ X)) : Pc C H0 f args H K := Pc.isZ h hb (by simp [Yg]) (fun g => Jy _ g _) (Xz _ _) hK
theorem Qel {f : Nat} {caps : List V} {N : Nat} {xs : Nat → Nat} (hN : N ≤ 8796093022208) (hx : ∀ i, i < N → xs i < 9223372036854775808) (hc : Qi caps = true) (ha : ∀ i, i < N → Pu C f (.int .i64 (i : Nat) :: caps) (.int .u64 (xs i : Nat))) :
  Fc C 133 [.int .i64 (N : Nat), .fn (.func f) [] caps] [] fun v H => Qjr v H (lv B32 (XS xs N)) := by
 refine Fc.keep ?_;refine (Qfm (st := none) (B := []) (rs := fun _ => ⟨0, 0, []⟩) (xs := xs) (fun q h => by cases h) (fun q h => by cases h) hN hx ?_).mono ?_
 ·intro i hi H _ _;refine (Fc.pure (ha i hi) (by simp [Qi, clo, hc]) (fun g => rfl) ⟨rfl, rfl⟩)
 ·rintro v H ⟨h1, _⟩;exact IsN.ret h1
theorem Xcv {k : Nat} (x m : Nat) (hx : x < 2 ^ k) (hm : m ≤ k) : (BitVec.ofInt k (x : Int) &&& BitVec.ofInt k ((2 ^ m - 1 : Nat) : Int)).toNat = x % 2 ^ m := by
 rw [BitVec.toNat_and, BitVec.ofInt_natCast, BitVec.ofInt_natCast, BitVec.toNat_ofNat, BitVec.toNat_ofNat, Nat.mod_eq_of_lt hx]
 have : 2 ^ m - 1 < 2 ^ k := by
  have := Nat.pow_le_pow_right (show 0 < 2 by decide) hm
  have := Nat.two_pow_pos m
  omega
 rw [Nat.mod_eq_of_lt this, Nat.and_two_pow_sub_one_eq_mod]
theorem Qnq (x : Nat) (hx : x < 18446744073709551616) : (BitVec.ofInt IntKind.u64.bits (x : Int) &&& BitVec.ofInt IntKind.u64.bits 4294967295).toNat = x % 4294967296 := Xcv (k := 64) x 32 hx (by decide)
theorem Qxa (n i : Nat) (hn : n < 18446744073709551616) (hi : i < 2) : Pu C 134 [.int .i64 (i : Nat), .rp [.int .u64 (n : Nat)] 0] (.int .u64 (n / 4294967296 ^ i % 4294967296 : Nat)) := by
 refine Fc.keep (Fc.bodyT Qe Tryz.func134 w134 rfl Tryz.ntmps134 Tryz.results134 (zLe rfl) ?_)
 (apply Zo;repeat' ((with_reducible first|apply Zk|(first|apply Za|apply Zb|apply Zc|apply Zd)<;>intro h)<;>try simp -implicitDefEqProofs (maxSteps:=9^7) (disch:=first|omega|(simp only [Qb];omega)) only [go_sem]))
 (refine Qo (by intro g; simp only [go_sem, ren, Ql]) ?_)
 have e : ((n : Int)).fdiv (2 ^ min (32 * (i : Int)).toNat 64) = ((n / 4294967296 ^ i : Nat) : Int) := by
  rw [Qar, show min (32 * (i : Int)).toNat 64 = 32 * i by omega, Nat.pow_mul]
 rw [e];exact congrArg (fun n : Nat => V.int .u64 (n : Int)) (Qnq _ (Nat.lt_of_le_of_lt (Nat.div_le_self _ _) hn))
theorem Qj0 (n : Nat) (hn : n < 18446744073709551616) : Fc C 113 [.int .u64 (n : Nat)] [] fun v H => Qjr v H n := by
 refine Fc.keep (Fc.bodyT Qe Tryz.func113 w113 rfl Tryz.ntmps113 Tryz.results113 (zLe rfl) ?_)
 (apply Zo;repeat' ((with_reducible first|apply Zk|(first|apply Za|apply Zb|apply Zc|apply Zd)<;>intro h)<;>try simp -implicitDefEqProofs (maxSteps:=9^7) (disch:=first|omega|(simp only [Qb];omega)) only [go_sem]))
 have hg := Qel (f := 134) (caps := [.rp [.int .u64 (n : Nat)] 0]) (N := 2) (xs := fun i => n / 4294967296 ^ i % 4294967296) (by decide) (fun i hi => by omega) rfl (fun i hi => Qxa n i hn hi)
 refine Fc.isN hg (Qaz 4 rfl) fun v X hv => ?_
 (apply Zo;repeat' ((with_reducible first|apply Zk|(first|apply Za|apply Zb|apply Zc|apply Zd)<;>intro h)<;>try simp -implicitDefEqProofs (maxSteps:=9^7) (disch:=first|omega|(simp only [Qb];omega)) only [go_sem]))
 have e : lv B32 (XS (fun i => n / 4294967296 ^ i % 4294967296) 2) = n := by
  rw [Qb3, Qb3]; simp [XS, lv, B32]; omega
 rw [e] at hv;exact hv.ret
theorem Qtw (a b : List Nat) (i : Nat) (ha : a.length ≤ 17592186044416) (hb : b.length ≤ 17592186044416) (hA : Lim a) (hB : Lim b) : Pu C 136 [.int .i64 (i : Nat), .rp [NA a] 0, .rp [NA b] 0] (.int .u64 (Xm a i + Xm b i : Nat)) := by
 have h1 := Jm hA i
 have h2 := Jm hB i
 refine Fc.keep (Fc.bodyT Qe Tryz.func136 w136 rfl Tryz.ntmps136 Tryz.results136 (zLe rfl) ?_)
 (apply Zo;repeat' ((with_reducible first|apply Zk|(first|apply Za|apply Zb|apply Zc|apply Zd)<;>intro h)<;>try simp -implicitDefEqProofs (maxSteps:=9^7) (disch:=first|omega|(simp only [Qb];omega)) only [go_sem]))
 refine Pc.pure (Jl a i ha hA) (by simp [go_sem, Qi, clo, Qc, Qx]) (by intro g; simp only [go_sem, ren, Ql]) ?_
 (apply Zo;repeat' ((with_reducible first|apply Zk|(first|apply Za|apply Zb|apply Zc|apply Zd)<;>intro h)<;>try simp -implicitDefEqProofs (maxSteps:=9^7) (disch:=first|omega|(simp only [Qb];omega)) only [go_sem]))
 refine Pc.pure (Jl b i hb hB) (by simp [go_sem, Qi, clo, Qc, Qx]) (by intro g; simp only [go_sem, ren, Ql]) ?_
 (apply Zo;repeat' ((with_reducible first|apply Zk|(first|apply Za|apply Zb|apply Zc|apply Zd)<;>intro h)<;>try simp -implicitDefEqProofs (maxSteps:=9^7) (disch:=first|omega|(simp only [Qb];omega)) only [go_sem]))
 (refine Qo (by intro g; simp only [go_sem, ren, Ql]) ?_)
 rfl
theorem Qd0 {b : Nat} (a : List Nat) : ∀ n, a.length ≤ n → lv b (XS (fun i => Xm a (i : Int)) n) = lv b a := by
 have h : ∀ n, n ≤ a.length → XS (fun i => Xm a (i : Int)) n = a.take n := by
  intro n
  induction n with
  | zero => intro _; simp [XS]
  | succ n ih =>
   intro hn;rw [Qvb, ih (by omega), List.take_add_one]
   simp [Xm, List.getD, show n < a.length by omega]
 intro n hn;obtain ⟨k, rfl⟩ := Nat.le.dest hn
 induction k with
 | zero => rw [Nat.add_zero, h _ (Nat.le_refl _), List.take_length]
 | succ k ih =>
  rw [← Nat.add_assoc, Qb3, ih (by omega)]
  have e : Xm a ((a.length + k : Nat) : Int) = 0 := by
   simp only [Xm]; rw [if_pos (by omega), Int.toNat_natCast]; simp [List.getD]
  rw [e]; simp
theorem Xas {b : Nat} (f g : Nat → Nat) : ∀ n, lv b (XS (fun i => f i + g i) n) = lv b (XS f n) + lv b (XS g n)
 | 0 => by simp [XS, lv]
 | n + 1 => by rw [Qb3, Qb3, Qb3, Xas f g n, Nat.mul_add]; omega
theorem Qrd (a b : List Nat) (ha : a.length ≤ 8796093022208) (hb : b.length ≤ 8796093022208) (hA : Lim a) (hB : Lim b) : Fc C 116 [NA a, NA b] [] fun v H => Qjr v H (lv B32 a + lv B32 b) := by
 refine Fc.keep (Fc.bodyT Qe Tryz.func116 w116 rfl Tryz.ntmps116 Tryz.results116 (zLe rfl) ?_)
 (apply Zo;repeat' ((with_reducible first|apply Zk|(first|apply Za|apply Zb|apply Zc|apply Zd)<;>intro h)<;>try simp -implicitDefEqProofs (maxSteps:=9^7) (disch:=first|omega|(simp only [Qb];omega)) only [go_sem]))
 have e : (if (b.length : Int) > (a.length : Int) then (b.length : Int) else (a.length : Int)) = ((max a.length b.length : Nat) : Int) := by split <;> omega
 have hg := Qel (f := 136) (caps := [.rp [NA a] 0, .rp [NA b] 0]) (N := max a.length b.length) (xs := fun i => Xm a i + Xm b i) (by omega) (fun i hi => by have := Jm hA i; have := Jm hB i; omega) (by simp [Qi, clo, Xl]) (fun i hi => Qtw a b i (by omega) (by omega) hA hB)
 rw [e];refine Fc.isN hg (Qaz 5 (by simp [go_sem, Qb1, clo, Qi, Qd])) fun v X hv => ?_
 (apply Zo;repeat' ((with_reducible first|apply Zk|(first|apply Za|apply Zb|apply Zc|apply Zd)<;>intro h)<;>try simp -implicitDefEqProofs (maxSteps:=9^7) (disch:=first|omega|(simp only [Qb];omega)) only [go_sem]))
 rw [Xas, Qd0 a _ (by omega), Qd0 b _ (by omega)] at hv
 exact hv.ret
end Go.Proofs.YtjdbdmhjakfldaaGreat
end
section
namespace Go.Proofs.YtjdbdmhjakfldaaGreat
open Go.Bv
theorem Qth (l : List Nat) (hl : l.length ≤ 17592186044416) : Fc C 168 [NA l] [] fun v H => Ret 59 1 H v l.length (Xa .u32 l) := by
 refine Fc.keep (Fc.bodyT Qe Tryz.func168 w168 rfl Tryz.ntmps168 Tryz.results168 (zLe rfl) ?_)
 (apply Zo;repeat' ((with_reducible first|apply Zk|(first|apply Za|apply Zb|apply Zc|apply Zd)<;>intro h)<;>try simp -implicitDefEqProofs (maxSteps:=9^7) (disch:=first|omega|(simp only [Qb];omega)) only [go_sem]))
 refine ⟨?_, fun h0 => ?_⟩
 ·refine Qfq (n := 0) (m := l.length) (cs := []) (news := Xa .u32 l) (.inr ⟨0, rfl, rfl, rfl⟩) rfl (by simp [Yg, t59size]) (Qdy _ _) (by simp [t59size]) (by simp [t59bytes]) (by simp only [t59bytes]; omega) rfl fun v' H' h1 _ _ _ => ?_
  (apply Zo;repeat' ((with_reducible first|apply Zk|(first|apply Za|apply Zb|apply Zc|apply Zd)<;>intro h)<;>try simp -implicitDefEqProofs (maxSteps:=9^7) (disch:=first|omega|(simp only [Qb];omega)) only [go_sem]))
  simp only [List.nil_append, Nat.zero_add] at h1;exact Own.ret h1 (fun g => Jy _ g _) fun v H h => h
 ·have : l = [] := List.length_eq_zero_iff.1 h0
  subst this
  (apply Zo;repeat' ((with_reducible first|apply Zk|(first|apply Za|apply Zb|apply Zc|apply Zd)<;>intro h)<;>try simp -implicitDefEqProofs (maxSteps:=9^7) (disch:=first|omega|(simp only [Qb];omega)) only [go_sem]))
  exact Own.ret (Own.nil _ _ _) (fun g => rfl) fun v H h => h
theorem Xge (l : List Nat) (n : Nat) (h : n ≤ l.length) : V.sl n ((Xa .u32 l).take n) = NA (l.take n) := by
 rw [Qii, NA, List.length_take, Nat.min_eq_left h]
theorem Own.isN {v : V} {H : Qa} {l : List Nat} {x : Nat} (h : Bv.Own 59 1 H v l.length (Xa .u32 l)) (hl : l = dg B32 x) : IsN v H x := by subst hl; exact .inr h
theorem Qf5 (l : List Nat) (hl : l.length ≤ 17592186044416) (hL : Lim l) : Fc C 157 [NA l] [] fun v H => Qjr v H (lv B32 l) := by
 have ht := Qab l
 refine Fc.keep (Fc.bodyT Qe Tryz.func157 w157 rfl Tryz.ntmps157 Tryz.results157 (zLe rfl) ?_)
 (apply Zo;repeat' ((with_reducible first|apply Zk|(first|apply Za|apply Zb|apply Zc|apply Zd)<;>intro h)<;>try simp -implicitDefEqProofs (maxSteps:=9^7) (disch:=first|omega|(simp only [Qb];omega)) only [go_sem]))
 refine Fc.pure (Qg0 l hl) (by simp [go_sem, Qi, clo, Qc, Qx]) (by intro g; simp only [go_sem, ren, Ql]) ?_
 (apply Zo;repeat' ((with_reducible first|apply Zk|(first|apply Za|apply Zb|apply Zc|apply Zd)<;>intro h)<;>try simp -implicitDefEqProofs (maxSteps:=9^7) (disch:=first|omega|(simp only [Qb];omega)) only [go_sem]))
 rw [Xge l _ ht];refine Fc.ownL (Qth (l.take (Xx l)) (by rw [List.length_take]; omega)) ⟨.self (Xl _), trivial⟩ (fun g => Jy _ g _) (Xz _ _) fun v X hv => ?_
 (apply Zo;repeat' ((with_reducible first|apply Zk|(first|apply Za|apply Zb|apply Zc|apply Zd)<;>intro h)<;>try simp -implicitDefEqProofs (maxSteps:=9^7) (disch:=first|omega|(simp only [Qb];omega)) only [go_sem]))
 exact (Own.isN hv (Qjf (by decide) hL).symm).ret
def Xa7 : ByteArray := { data := (([0, 1, 2, 2, 3, 3, 3, 3, 4, 4, 4, 4, 4, 4, 4, 4, 5, 5, 5, 5, 5, 5, 5, 5, 5, 5, 5, 5, 5, 5, 5, 5, 6, 6, 6, 6, 6, 6, 6, 6, 6, 6, 6, 6, 6, 6, 6, 6, 6, 6, 6, 6, 6, 6, 6, 6, 6, 6, 6, 6, 6, 6, 6, 6].append [7, 7, 7, 7, 7, 7, 7, 7, 7, 7, 7, 7, 7, 7, 7, 7, 7, 7, 7, 7, 7, 7, 7, 7, 7, 7, 7, 7, 7, 7, 7, 7, 7, 7, 7, 7, 7, 7, 7, 7, 7, 7, 7, 7, 7, 7, 7, 7, 7, 7, 7, 7, 7, 7, 7, 7, 7, 7, 7, 7, 7, 7, 7, 7]).append ([8, 8, 8, 8, 8, 8, 8, 8, 8, 8, 8, 8, 8, 8, 8, 8, 8, 8, 8, 8, 8, 8, 8, 8, 8, 8, 8, 8, 8, 8, 8, 8, 8, 8, 8, 8, 8, 8, 8, 8, 8, 8, 8, 8, 8, 8, 8, 8, 8, 8, 8, 8, 8, 8, 8, 8, 8, 8, 8, 8, 8, 8, 8, 8].append [8, 8, 8, 8, 8, 8, 8, 8, 8, 8, 8, 8, 8, 8, 8, 8, 8, 8, 8, 8, 8, 8, 8, 8, 8, 8, 8, 8, 8, 8, 8, 8, 8, 8, 8, 8, 8, 8, 8, 8, 8, 8, 8, 8, 8, 8, 8, 8, 8, 8, 8, 8, 8, 8, 8, 8, 8, 8, 8, 8, 8, 8, 8, 8])).toArray }
theorem Xa6 : (List.range 256).all (fun i => decide (i < 2 ^ (Xa7[i]?.getD 0).toNat ∧ (2 ^ (Xa7[i]?.getD 0).toNat ≤ 2 * i ∨ i = 0 ∧ (Xa7[i]?.getD 0).toNat = 0))) = true := by kernel_rfl
theorem Qp4 (i : Nat) (h : i < 256) : (({ data := (([0, 1, 2, 2, 3, 3, 3, 3, 4, 4, 4, 4, 4, 4, 4, 4, 5, 5, 5, 5, 5, 5, 5, 5, 5, 5, 5, 5, 5, 5, 5, 5, 6, 6, 6, 6, 6, 6, 6, 6, 6, 6, 6, 6, 6, 6, 6, 6, 6, 6, 6, 6, 6, 6, 6, 6, 6, 6, 6, 6, 6, 6, 6, 6].append [7, 7, 7, 7, 7, 7, 7, 7, 7, 7, 7, 7, 7, 7, 7, 7, 7, 7, 7, 7, 7, 7, 7, 7, 7, 7, 7, 7, 7, 7, 7, 7, 7, 7, 7, 7, 7, 7, 7, 7, 7, 7, 7, 7, 7, 7, 7, 7, 7, 7, 7, 7, 7, 7, 7, 7, 7, 7, 7, 7, 7, 7, 7, 7]).append ([8, 8, 8, 8, 8, 8, 8, 8, 8, 8, 8, 8, 8, 8, 8, 8, 8, 8, 8, 8, 8, 8, 8, 8, 8, 8, 8, 8, 8, 8, 8, 8, 8, 8, 8, 8, 8, 8, 8, 8, 8, 8, 8, 8, 8, 8, 8, 8, 8, 8, 8, 8, 8, 8, 8, 8, 8, 8, 8, 8, 8, 8, 8, 8].append [8, 8, 8, 8, 8, 8, 8, 8, 8, 8, 8, 8, 8, 8, 8, 8, 8, 8, 8, 8, 8, 8, 8, 8, 8, 8, 8, 8, 8, 8, 8, 8, 8, 8, 8, 8, 8, 8, 8, 8, 8, 8, 8, 8, 8, 8, 8, 8, 8, 8, 8, 8, 8, 8, 8, 8, 8, 8, 8, 8, 8, 8, 8, 8])).toArray } : ByteArray)[i]?.getD 0).toNat = Yq i := by
 show (Xa7[i]?.getD 0).toNat = Yq i
 have := Xa6
 simp only [List.all_eq_true, List.mem_range, decide_eq_true_eq] at this;obtain ⟨h1, h2 | ⟨rfl, h2⟩⟩ := this i h
 ·generalize (Xa7[i]?.getD 0).toNat = k at *;cases k with
  | zero => simp at h1 h2; omega
  | succ k => rw [Nat.pow_succ] at h2; exact (Qu7 h1 (by omega)).symm
 ·rw [h2, Qi0]
theorem Qml : ({ data := (([0, 1, 2, 2, 3, 3, 3, 3, 4, 4, 4, 4, 4, 4, 4, 4, 5, 5, 5, 5, 5, 5, 5, 5, 5, 5, 5, 5, 5, 5, 5, 5, 6, 6, 6, 6, 6, 6, 6, 6, 6, 6, 6, 6, 6, 6, 6, 6, 6, 6, 6, 6, 6, 6, 6, 6, 6, 6, 6, 6, 6, 6, 6, 6].append [7, 7, 7, 7, 7, 7, 7, 7, 7, 7, 7, 7, 7, 7, 7, 7, 7, 7, 7, 7, 7, 7, 7, 7, 7, 7, 7, 7, 7, 7, 7, 7, 7, 7, 7, 7, 7, 7, 7, 7, 7, 7, 7, 7, 7, 7, 7, 7, 7, 7, 7, 7, 7, 7, 7, 7, 7, 7, 7, 7, 7, 7, 7, 7]).append ([8, 8, 8, 8, 8, 8, 8, 8, 8, 8, 8, 8, 8, 8, 8, 8, 8, 8, 8, 8, 8, 8, 8, 8, 8, 8, 8, 8, 8, 8, 8, 8, 8, 8, 8, 8, 8, 8, 8, 8, 8, 8, 8, 8, 8, 8, 8, 8, 8, 8, 8, 8, 8, 8, 8, 8, 8, 8, 8, 8, 8, 8, 8, 8].append [8, 8, 8, 8, 8, 8, 8, 8, 8, 8, 8, 8, 8, 8, 8, 8, 8, 8, 8, 8, 8, 8, 8, 8, 8, 8, 8, 8, 8, 8, 8, 8, 8, 8, 8, 8, 8, 8, 8, 8, 8, 8, 8, 8, 8, 8, 8, 8, 8, 8, 8, 8, 8, 8, 8, 8, 8, 8, 8, 8, 8, 8, 8, 8])).toArray } : ByteArray).size = 256 := by kernel_rfl
theorem Xk1 (x : Nat) : (x : Int).fdiv (2 ^ min 16 32) = ((x / 65536 : Nat) : Int) := Qar x 16
theorem Xl3 (x : Nat) : (x : Int).fdiv (2 ^ min 8 32) = ((x / 256 : Nat) : Int) := Qar x 8
theorem Qyi {n : Int} (h : 0 ≤ n ∧ n ≤ 255) : IntKind.wrap .u8 n = n := by
 have e : IntKind.wrap .u8 n = n % 256 := by simp [IntKind.wrap, IntKind.bits, IntKind.signed]
 rw [e]; omega
theorem Qkv (x : Nat) (hx : x < 4294967296) : Pu C 153 [.int .u32 (x : Nat)] (.int .i64 (Yq x : Nat)) := by
 have b0 : x < 256 → Yq x ≤ 8 := fun h => Ju (by omega)
 have b1 : x < 65536 → Yq (x / 256) ≤ 8 := fun h => Ju (by omega)
 have b2 : x < 16777216 → Yq (x / 65536) ≤ 8 := fun h => Ju (by omega)
 have b3 : Yq (x / 65536 / 256) ≤ 8 := Ju (by omega)
 refine Fc.keep (Fc.bodyT Qe Tryz.func153 w153 rfl Tryz.ntmps153 Tryz.results153 (zLe rfl) ?_)
 (apply Zo;repeat' ((with_reducible first|apply Zk|(first|apply Za|apply Zb|apply Zc|apply Zd)<;>intro h)<;>try simp -implicitDefEqProofs (maxSteps:=9^7) (disch:=first|omega|(simp only [Qb];omega)) only [go_sem, Xk1, Xl3, Qyi, Qp4, Qml]))
 ·skip
  (refine Qo (by intro g; simp only [go_sem, ren, Ql]) ?_)
  rw [Qa0 (n := x) (k := 16) (by omega), Qa0 (n := x / 2 ^ 16) (k := 8) (by omega)]
  congr 1; simp only [Nat.reducePow]; omega
 ·skip
  (refine Qo (by intro g; simp only [go_sem, ren, Ql]) ?_)
  rw [Qa0 (n := x) (k := 16) (by omega)]
  congr 1
 ·skip
  (refine Qo (by intro g; simp only [go_sem, ren, Ql]) ?_)
  rw [Qa0 (n := x) (k := 8) (by omega)]
  congr 1
 ·skip
  (refine Qo (by intro g; simp only [go_sem, ren, Ql]) ?_)
  congr 1; omega
theorem Qxk (x : Nat) (hx : x < 4294967296) : Pu C 170 [.int .u32 (x : Nat)] (.int .i64 (32 - Yq x : Nat)) := by
 have hb : Yq x ≤ 32 := Ju (by omega)
 refine Fc.keep (Fc.bodyT Qe Tryz.func170 w170 rfl Tryz.ntmps170 Tryz.results170 (zLe rfl) ?_)
 (apply Zo;repeat' ((with_reducible first|apply Zk|(first|apply Za|apply Zb|apply Zc|apply Zd)<;>intro h)<;>try simp -implicitDefEqProofs (maxSteps:=9^7) (disch:=first|omega|(simp only [Qb];omega)) only [go_sem]))
 refine Fc.pure (Qkv x hx) (by simp [go_sem, Qi, clo, Qc, Qx]) (by intro g; simp only [go_sem, ren, Ql]) ?_
 (apply Zo;repeat' ((with_reducible first|apply Zk|(first|apply Za|apply Zb|apply Zc|apply Zd)<;>intro h)<;>try simp -implicitDefEqProofs (maxSteps:=9^7) (disch:=first|omega|(simp only [Qb];omega)) only [go_sem]))
 (refine Qo (by intro g; simp only [go_sem, ren, Ql]) ?_)
 congr 1; omega
theorem Qvr {l : List Nat} (h : 0 < Xx l) : l.getD (Xx l - 1) 0 ≠ 0 := by
 have h1 := Qab l
 intro h0
 have h2 : Xx (l.take (Xx l - 1 + 1)) = Xx (l.take (Xx l - 1)) := by rw [Kt (by omega), if_pos h0]
 have h3 : ∀ n, n ≤ l.length → Xx l ≤ n → Xx (l.take n) = Xx l := by
  intro n
  induction hn : l.length - n generalizing n with
  | zero => intro h4 _; rw [List.take_of_length_le (by omega)]
  | succ k ih =>
   intro h4 h5
   have := ih (n + 1) (by omega) (by omega) (by omega)
   rw [Kt (by omega)] at this
   split at this
   ·exact this
   ·omega
 rw [Nat.sub_add_cancel h, h3 _ h1 (Nat.le_refl _)] at h2
 have := Qab (l.take (Xx l - 1))
 rw [List.length_take] at this;omega
theorem Xcp {l : List Nat} (hL : Lim l) (h : 0 < Xx l) : Yq (lv B32 l) = 32 * (Xx l - 1) + Yq (l.getD (Xx l - 1) 0) := by
 have hne := Qvr h
 have hle := Qab l
 have hs := Km B32 l (Xx l) hle
 have hz : lv B32 (l.drop (Xx l)) = 0 := by
  have e1 : dg B32 (lv B32 l) = l.take (Xx l) := Qjf (by decide) hL
  have e2 := Qks (b := B32) (by decide) (lv B32 l)
  rw [e1] at e2;rw [e2] at hs
  have : B32 ^ Xx l * lv B32 (l.drop (Xx l)) = 0 := by omega
  rcases Nat.mul_eq_zero.1 this with h | h
  ·have : 0 < B32 ^ Xx l := Nat.pow_pos (by decide)
   omega
  ·exact h
 rw [hz, Nat.mul_zero, Nat.add_zero] at hs;obtain ⟨k, hk⟩ : ∃ k, Xx l = k + 1 := ⟨Xx l - 1, by omega⟩
 rw [hk] at hs hne hle ⊢;simp only [Nat.add_sub_cancel] at hne ⊢;rw [Qfg (by omega)] at hs
 have hlow : lv B32 (l.take k) < B32 ^ k := Kl hL k (by omega)
 have e : B32 ^ k = 2 ^ (32 * k) := by rw [Nat.pow_mul]; rfl
 rw [e] at hs hlow;rw [hs]
 have hd : (lv B32 (l.take k) + 2 ^ (32 * k) * l.getD k 0) / 2 ^ (32 * k) = l.getD k 0 := by
  rw [Nat.add_mul_div_left _ _ (Nat.two_pow_pos _), Nat.div_eq_of_lt hlow, Nat.zero_add]
 have := Qa0 (n := lv B32 (l.take k) + 2 ^ (32 * k) * l.getD k 0) (k := 32 * k) (by
  have := Nat.mul_le_mul_left (2 ^ (32 * k)) (Nat.pos_of_ne_zero hne)
  omega)
 rw [hd] at this;exact this
theorem Qm0 (l : List Nat) (hl : l.length ≤ 17592186044416) (hL : Lim l) : Pu C 128 [NA l] (.int .i64 (Yq (lv B32 l) : Nat)) := by
 have ht := Qab l
 refine Fc.keep (Fc.bodyT Qe Tryz.func128 w128 rfl Tryz.ntmps128 Tryz.results128 (zLe rfl) ?_)
 (apply Zo;repeat' ((with_reducible first|apply Zk|(first|apply Za|apply Zb|apply Zc|apply Zd)<;>intro h)<;>try simp -implicitDefEqProofs (maxSteps:=9^7) (disch:=first|omega|(simp only [Qb];omega)) only [go_sem]))
 refine Fc.pure (Qg0 l hl) (by simp [go_sem, Qi, clo, Qc, Qx]) (by intro g; simp only [go_sem, ren, Ql]) ?_
 (apply Zo;repeat' ((with_reducible first|apply Zk|(first|apply Za|apply Zb|apply Zc|apply Zd)<;>intro h)<;>try simp -implicitDefEqProofs (maxSteps:=9^7) (disch:=first|omega|(simp only [Qb];omega)) only [go_sem]))
 ·skip
  (refine Qo (by intro g; simp only [go_sem, ren, Ql]) ?_)
  have h0 : Xx l = 0 := by omega
  have : lv B32 l = 0 := (Qbn (by decide)).2 (Qdp.1 h0)
  rw [this, Qi0]; rfl
 ·have h0 : 0 < Xx l := by omega
  have hg := hL.get (Xx l - 1)
  have hb : Yq (l.getD (Xx l - 1) 0) ≤ 32 := Ju (by omega)
  (apply Zo;repeat' ((with_reducible first|apply Zk|(first|apply Za|apply Zb|apply Zc|apply Zd)<;>intro h)<;>try simp -implicitDefEqProofs (maxSteps:=9^7) (disch:=first|omega|(simp only [Qb];omega)) only [go_sem]))
  refine Fc.pure (Qkv _ hg) (by simp [go_sem, Qi, clo, Qc, Qx]) (by intro g; simp only [go_sem, ren, Ql]) ?_
  (apply Zo;repeat' ((with_reducible first|apply Zk|(first|apply Za|apply Zb|apply Zc|apply Zd)<;>intro h)<;>try simp -implicitDefEqProofs (maxSteps:=9^7) (disch:=first|omega|(simp only [Qb];omega)) only [go_sem]))
  (refine Qo (by intro g; simp only [go_sem, ren, Ql]) ?_)
  rw [Xcp hL h0]
  congr 1; omega
theorem Qin {b : Nat} (hb : 0 < b) (x : Nat) : ∀ n, lv b (XS (fun i => x / b ^ i % b) n) = x % b ^ n
 | 0 => by simp [XS, lv, Nat.mod_one]
 | n + 1 => by
  rw [Qb3, Qin hb x n, Nat.pow_succ, Nat.mod_mul]
theorem Qhl {a : List Nat} (h : Lim a) (j : Nat) : Xm a (j : Int) = lv B32 a / B32 ^ j % B32 := by
 simp only [Xm];rw [if_pos (by omega), Int.toNat_natCast]
 have hB : 0 < B32 := by decide
 have hp : 0 < B32 ^ j := Nat.pow_pos hB
 by_cases hj : j < a.length
 ·have hlow : lv B32 (a.take j) < B32 ^ j := Kl h j (by omega)
  rw [Km B32 a j (by omega), Nat.add_mul_div_left _ _ hp, Nat.div_eq_of_lt hlow, Nat.zero_add]
  have e : a.drop j = a.getD j 0 :: a.drop (j + 1) := by
   rw [List.drop_eq_getElem_cons hj]; simp [List.getD, hj]
  rw [e, lv, Nat.add_mul_mod_self_left];exact (Nat.mod_eq_of_lt (h.get j)).symm
 ·have h1 : lv B32 a < B32 ^ j := Nat.lt_of_lt_of_le (Qfh h) (Nat.pow_le_pow_right hB (by omega))
  rw [Nat.div_eq_of_lt h1];simp [List.getD, List.getElem?_eq_none (Nat.le_of_not_lt hj)]
theorem Qp1 {a : List Nat} (h : Lim a) (j : Nat) : Xm a ((j + 1 : Nat) : Int) * B32 + Xm a (j : Int) = lv B32 a / B32 ^ j % (B32 * B32) := by
 rw [Qhl h, Qhl h, Nat.mod_mul, Nat.pow_succ, ← Nat.div_div_eq_div_mul, Nat.mul_comm, Nat.add_comm]
theorem Qv3 {A s j : Nat} (hs : s < 32) : A / B32 ^ j % (B32 * B32) * 2 ^ s / B32 % B32 = A * 2 ^ s / B32 ^ (j + 1) % B32 := by
 have hB : 0 < B32 := by decide
 have hp : 0 < B32 ^ j := Nat.pow_pos hB
 have h2 : 0 < 2 ^ s := Nat.two_pow_pos s
 obtain ⟨c, hc⟩ : ∃ c, B32 = 2 ^ s * c := ⟨2 ^ (32 - s), by rw [← Nat.pow_add, show s + (32 - s) = 32 by omega]; rfl⟩
 have hc0 : 0 < c := Nat.pos_of_ne_zero fun h => by rw [h] at hc; simp at hc; omega
 rw [Nat.pow_succ, ← Nat.div_div_eq_div_mul];generalize hY : A / B32 ^ j = Y
 have e1 : A * 2 ^ s / B32 ^ j / B32 = Y / c := by
  have hA : A = B32 ^ j * Y + A % B32 ^ j := by rw [← hY]; exact (Nat.div_add_mod A (B32 ^ j)).symm
  have ht : A % B32 ^ j * 2 ^ s / B32 ^ j < 2 ^ s := by
   rw [Nat.div_lt_iff_lt_mul hp, Nat.mul_comm (2 ^ s)];exact Nat.mul_lt_mul_of_pos_right (Nat.mod_lt _ hp) h2
  have e : A * 2 ^ s / B32 ^ j = Y * 2 ^ s + A % B32 ^ j * 2 ^ s / B32 ^ j := by
   conv => lhs; rw [hA, Nat.add_mul, Nat.mul_assoc, Nat.mul_add_div hp]
  rw [e];generalize A % B32 ^ j * 2 ^ s / B32 ^ j = t at ht ⊢;rw [hc, ← Nat.div_div_eq_div_mul, Nat.mul_comm Y, Nat.mul_add_div h2, Nat.div_eq_of_lt ht, Nat.add_zero]
 have e2 : ∀ y : Nat, y * 2 ^ s / B32 = y / c := fun y => by
  conv => lhs; rw [hc, Nat.mul_comm y, Nat.mul_div_mul_left _ _ h2]
 rw [e1, e2]
 have e3 : Y = B32 * B32 * (Y / (B32 * B32)) + Y % (B32 * B32) := (Nat.div_add_mod _ _).symm
 conv => rhs; rw [e3]
 have e4 : ∀ W, B32 * B32 * W = c * (B32 * (2 ^ s * W)) := fun W => by
  have : B32 * B32 = 2 ^ s * c * B32 := by rw [← hc]
  rw [this]; ac_rfl
 rw [e4, Nat.mul_add_div hc0, Nat.mul_comm B32, Nat.mul_comm _ B32, Nat.mul_add_mod]
theorem Qv2 {A s j : Nat} (hs : s < 32) : A / B32 ^ j % (B32 * B32) / 2 ^ s % B32 = A / (B32 ^ j * 2 ^ s) % B32 := by
 have h2 : 0 < 2 ^ s := Nat.two_pow_pos s
 obtain ⟨c, hc⟩ : ∃ c, B32 = 2 ^ s * c := ⟨2 ^ (32 - s), by rw [← Nat.pow_add, show s + (32 - s) = 32 by omega]; rfl⟩
 rw [← Nat.div_div_eq_div_mul];generalize A / B32 ^ j = Y
 have e3 : Y = B32 * B32 * (Y / (B32 * B32)) + Y % (B32 * B32) := (Nat.div_add_mod _ _).symm
 conv => rhs; rw [e3]
 have e4 : ∀ W, B32 * B32 * W = 2 ^ s * (B32 * (c * W)) := fun W => by
  have : B32 * B32 = 2 ^ s * c * B32 := by rw [← hc]
  rw [this]; ac_rfl
 rw [e4, Nat.mul_add_div h2, Nat.mul_add_mod]
theorem Qi7 (x : Nat) : (x : Int) * 2 ^ (min 32 64) = ((x * 4294967296 : Nat) : Int) := by simp
theorem Qkf (x y : Nat) (hx : x < 4294967296) (hy : y < 4294967296) : (BitVec.ofInt IntKind.u64.bits ((x * 4294967296 : Nat) : Int) ||| BitVec.ofInt IntKind.u64.bits (y : Int)).toNat = x * 4294967296 + y := by
 have e : (BitVec.ofInt 64 ((x * 4294967296 : Nat) : Int) ||| BitVec.ofInt 64 (y : Int)).toNat = x * 4294967296 ||| y := Qzy (k := 64) (by omega) (by omega)
 have := Nat.shiftLeft_add_eq_or_of_lt (i := 32) (b := y) (by omega) x
 rw [Nat.shiftLeft_eq] at this;exact e.trans this.symm
theorem Qru (a : List Nat) (n i : Nat) (ha : a.length ≤ 8796093022208) (hA : Lim a) (hn : n ≤ 140737488355328) (hi : i ≤ 8796093022208) :
  Pu C 180 [.int .i64 (i : Nat), .rp [.int .i64 (n : Nat)] 0, .rp [NA a] 0] (.int .u64 (lv B32 a / 2 ^ n / B32 ^ i % B32 : Nat)) := by
 have h1 := Jm hA (i + n / 32 : Nat)
 have h2 := Jm hA (i + n / 32 + 1 : Nat)
 refine Fc.keep (Fc.bodyT Qe Tryz.func180 w180 rfl Tryz.ntmps180 Tryz.results180 (zLe rfl) ?_)
 (apply Zo;repeat' ((with_reducible first|apply Zk|(first|apply Za|apply Zb|apply Zc|apply Zd)<;>intro h)<;>try simp -implicitDefEqProofs (maxSteps:=9^7) (disch:=first|omega|(simp only [Qb];omega)) only [go_sem]))
 have e1 : (i : Int) + (n : Int) / 32 + 1 = ((i + n / 32 + 1 : Nat) : Int) := by omega
 have e2 : (i : Int) + (n : Int) / 32 = ((i + n / 32 : Nat) : Int) := by omega
 rw [e1];refine Pc.pure (Jl a _ (by omega) hA) (by simp [go_sem, Qi, clo, Qc, Qx]) (by intro g; simp only [go_sem, ren, Ql]) ?_
 generalize hx : Xm a ((i + n / 32 + 1 : Nat) : Int) = x at h2 ⊢
 (apply Zo;repeat' ((with_reducible first|apply Zk|(first|apply Za|apply Zb|apply Zc|apply Zd)<;>intro h)<;>try simp -implicitDefEqProofs (maxSteps:=9^7) (disch:=first|omega|(simp only [Qb];omega)) only [go_sem, Qi7]))
 rw [e2];refine Pc.pure (Jl a _ (by omega) hA) (by simp [go_sem, Qi, clo, Qc, Qx]) (by intro g; simp only [go_sem, ren, Ql]) ?_
 generalize hy : Xm a ((i + n / 32 : Nat) : Int) = y at h1 ⊢
 (apply Zo;repeat' ((with_reducible first|apply Zk|(first|apply Za|apply Zb|apply Zc|apply Zd)<;>intro h)<;>try simp -implicitDefEqProofs (maxSteps:=9^7) (disch:=first|omega|(simp only [Qb];omega)) only [go_sem, Qi7, Qkf]))
 (refine Qo (by intro g; simp only [go_sem, ren, Ql]) ?_)
 have hs : min ((n : Int) % 32).toNat 64 = n % 32 := by omega
 have key : (BitVec.ofInt 64 (((BitVec.ofInt 64 ((x * 4294967296 : Nat) : Int) ||| BitVec.ofInt 64 (y : Int)).toNat : Int).fdiv (2 ^ min ((n : Int) % 32).toNat 64)) &&& BitVec.ofInt 64 4294967295).toNat = (x * 4294967296 + y) / 2 ^ (n % 32) % 4294967296 := by
  rw [show (BitVec.ofInt 64 ((x * 4294967296 : Nat) : Int) ||| BitVec.ofInt 64 (y : Int)).toNat = x * 4294967296 + y from Qkf x y h2 h1, Qar, hs];exact Qnq _ (Nat.lt_of_le_of_lt (Nat.div_le_self _ _) (by omega))
 refine (congrArg (fun k : Nat => V.int .u64 (k : Int)) key).trans ?_
 have hd := Qp1 hA (i + n / 32)
 rw [show Xm a ((i + n / 32 + 1 : Nat) : Int) = x from hx, show Xm a ((i + n / 32 : Nat) : Int) = y from hy] at hd
 have hd' : x * 4294967296 + y = lv B32 a / B32 ^ (i + n / 32) % (B32 * B32) := hd
 rw [hd']
 have := Qv2 (A := lv B32 a) (s := n % 32) (j := i + n / 32) (by omega)
 refine congrArg (fun k : Nat => V.int .u64 (k : Int)) (this.trans ?_)
 rw [Nat.div_div_eq_div_mul, Nat.pow_add]
 have e : (2 : Nat) ^ n = B32 ^ (n / 32) * 2 ^ (n % 32) := by
  have : B32 ^ (n / 32) = 2 ^ (32 * (n / 32)) := by rw [Nat.pow_mul]; rfl
  rw [this, ← Nat.pow_add]; congr 1; omega
 rw [e, show B32 ^ i * B32 ^ (n / 32) * 2 ^ (n % 32) = B32 ^ (n / 32) * 2 ^ (n % 32) * B32 ^ i by ac_rfl]
theorem Kf {a : List Nat} (h : Lim a) : lv B32 a < B32 ^ a.length := Qfh h
theorem Qup {H : Qa} {x : Nat} (h : x = 0) : IsN .nil H x := by subst h; exact Own.isN (l := []) (Bv.Own.nil _ _ _) (Xv _).symm
theorem Qzu (k : Nat) : B32 ^ k = 2 ^ (32 * k) := by rw [Nat.pow_mul]; rfl
theorem Xc6 (a : List Nat) (n : Nat) (ha : a.length ≤ 8796093022208) (hA : Lim a) (hn : n ≤ 140737488355328) : Fc C 175 [NA a, .int .i64 (n : Nat)] [] fun v H => Qjr v H (lv B32 a / 2 ^ n) := by
 have hm : (if (0 : Int) > (n : Int) then (0 : Int) else (n : Int)) = (n : Int) := by rw [if_neg (by omega)]
 have hlt := Kf hA
 refine Fc.keep (Fc.bodyT Qe Tryz.func175 w175 rfl Tryz.ntmps175 Tryz.results175 (zLe rfl) ?_)
 (apply Zo;repeat' ((with_reducible first|apply Zk|(first|apply Za|apply Zb|apply Zc|apply Zd)<;>intro h)<;>try simp -implicitDefEqProofs (maxSteps:=9^7) (disch:=first|omega|(simp only [Qb];omega)) only [go_sem, hm]))
 ·refine IsN.ret (Qup (Nat.div_eq_of_lt (Nat.lt_of_lt_of_le hlt ?_)));rw [Qzu];exact Nat.pow_le_pow_right (by decide) (by omega)
 ·have hg := Qel (f := 180) (caps := [.rp [.int .i64 (n : Nat)] 0, .rp [NA a] 0]) (N := a.length) (xs := fun i => lv B32 a / 2 ^ n / B32 ^ i % B32) ha (fun i hi => by have := Nat.mod_lt (lv B32 a / 2 ^ n / B32 ^ i) (show 0 < B32 by decide); simp only [B32] at *; omega) (by simp [Qi, clo, Xl]) (fun i hi => Qru a n i ha hA hn (by omega))
  refine Fc.isN hg (Qaz 5 (by simp [go_sem, Qb1, clo, Qi, Qd])) fun v X hv => ?_
  (apply Zo;repeat' ((with_reducible first|apply Zk|(first|apply Za|apply Zb|apply Zc|apply Zd)<;>intro h)<;>try simp -implicitDefEqProofs (maxSteps:=9^7) (disch:=first|omega|(simp only [Qb];omega)) only [go_sem]))
  rw [Qin (by decide), Nat.mod_eq_of_lt (Nat.lt_of_le_of_lt (Nat.div_le_self _ _) hlt)] at hv
  exact hv.ret
theorem Qrv (a : List Nat) (n i : Nat) (ha : a.length ≤ 8796093022208) (hA : Lim a) (hn : n ≤ 140737488355328) (hi : i ≤ 17592186044416) :
  Pu C 177 [.int .i64 (i : Nat), .rp [.int .i64 (n : Nat)] 0, .rp [NA a] 0] (.int .u64 (lv B32 a * 2 ^ n / B32 ^ i % B32 : Nat)) := by
 have h1 := Jm hA ((i : Int) - (n / 32 : Nat))
 have h2 := Jm hA ((i : Int) - (n / 32 : Nat) - 1)
 have e0 : (2 : Nat) ^ n = B32 ^ (n / 32) * 2 ^ (n % 32) := by
  rw [Qzu, ← Nat.pow_add]; congr 1; omega
 refine Fc.keep (Fc.bodyT Qe Tryz.func177 w177 rfl Tryz.ntmps177 Tryz.results177 (zLe rfl) ?_)
 (apply Zo;repeat' ((with_reducible first|apply Zk|(first|apply Za|apply Zb|apply Zc|apply Zd)<;>intro h)<;>try simp -implicitDefEqProofs (maxSteps:=9^7) (disch:=first|omega|(simp only [Qb];omega)) only [go_sem]))
 ·skip
  (refine Qo (by intro g; simp only [go_sem, ren, Ql]) ?_)
  have : lv B32 a * 2 ^ n / B32 ^ i % B32 = 0 := by
   obtain ⟨k, hk⟩ : ∃ k, n / 32 = i + 1 + k := ⟨n / 32 - i - 1, by omega⟩
   rw [e0, hk, Nat.pow_add, Nat.pow_succ, show lv B32 a * (B32 ^ i * B32 * B32 ^ k * 2 ^ (n % 32)) = B32 ^ i * (B32 * (lv B32 a * B32 ^ k * 2 ^ (n % 32))) by ac_rfl, Nat.mul_div_cancel_left _ (Nat.pow_pos (by decide)), Nat.mul_mod_right]
  rw [this]; rfl
 ·have e1 : (i : Int) - (n : Int) / 32 = (i : Int) - (n / 32 : Nat) := by omega
  have e2 : (i : Int) - (n : Int) / 32 - 1 = (i : Int) - (n / 32 : Nat) - 1 := by omega
  rw [e1];refine Pc.pure (Jl a _ (by omega) hA) (by simp [go_sem, Qi, clo, Qc, Qx]) (by intro g; simp only [go_sem, ren, Ql]) ?_
  generalize hx : Xm a ((i : Int) - (n / 32 : Nat)) = x at h1 ⊢
  (apply Zo;repeat' ((with_reducible first|apply Zk|(first|apply Za|apply Zb|apply Zc|apply Zd)<;>intro h)<;>try simp -implicitDefEqProofs (maxSteps:=9^7) (disch:=first|omega|(simp only [Qb];omega)) only [go_sem, Qi7]))
  refine Pc.pure (Jl a _ (by omega) hA) (by simp [go_sem, Qi, clo, Qc, Qx]) (by intro g; simp only [go_sem, ren, Ql]) ?_
  generalize hy : Xm a ((i : Int) - (n / 32 : Nat) - 1) = y at h2 ⊢
  (apply Zo;repeat' ((with_reducible first|apply Zk|(first|apply Za|apply Zb|apply Zc|apply Zd)<;>intro h)<;>try simp -implicitDefEqProofs (maxSteps:=9^7) (disch:=first|omega|(simp only [Qb];omega)) only [go_sem, Qi7, Qkf]))
  (refine Qo (by intro g; simp only [go_sem, ren, Ql]) ?_)
  have hs : min ((n : Int) % 32).toNat 64 = n % 32 := by omega
  have e3 : (IntKind.wrap .u64 (((x * 4294967296 + y : Nat) : Int) * 2 ^ (n % 32))) = (((x * 4294967296 + y) * 2 ^ (n % 32) % 18446744073709551616 : Nat) : Int) := by
   rw [Qot]; simp [Int.natCast_emod]
  have key : (BitVec.ofInt 64 ((IntKind.wrap .u64 (((BitVec.ofInt 64 ((x * 4294967296 : Nat) : Int) ||| BitVec.ofInt 64 (y : Int)).toNat : Int) * 2 ^ min ((n : Int) % 32).toNat 64)).fdiv (2 ^ min 32 64)) &&& BitVec.ofInt 64 4294967295).toNat = (x * 4294967296 + y) * 2 ^ (n % 32) / 4294967296 % 4294967296 := by
   rw [show (BitVec.ofInt 64 ((x * 4294967296 : Nat) : Int) ||| BitVec.ofInt 64 (y : Int)).toNat = x * 4294967296 + y from Qkf x y h1 h2, hs, e3, Qar];refine (Qnq _ (Nat.lt_of_le_of_lt (Nat.div_le_self _ _) (Nat.mod_lt _ (by decide)))).trans ?_
   have := Nat.mod_mul_right_div_self ((x * 4294967296 + y) * 2 ^ (n % 32)) 4294967296 4294967296
   rw [show min 32 64 = 32 from rfl, show (2 : Nat) ^ 32 = 4294967296 from rfl, this, Nat.mod_mod]
  refine (congrArg (fun k : Nat => V.int .u64 (k : Int)) key).trans ?_
  refine congrArg (fun k : Nat => V.int .u64 (k : Int)) ?_
  have cancel : ∀ j, lv B32 a * 2 ^ n / B32 ^ (n / 32 + j) = lv B32 a * 2 ^ (n % 32) / B32 ^ j := fun j => by
   rw [e0, Nat.pow_add, show lv B32 a * (B32 ^ (n / 32) * 2 ^ (n % 32)) = B32 ^ (n / 32) * (lv B32 a * 2 ^ (n % 32)) by ac_rfl, Nat.mul_div_mul_left _ _ (Nat.pow_pos (by decide))]
  obtain ⟨j, hj⟩ : ∃ j, i = n / 32 + j := ⟨i - n / 32, by omega⟩
  rw [hj, cancel];cases j with
  | zero =>
   have hx0 : x = lv B32 a % B32 := by
    have := Qhl hA 0
    rw [Nat.pow_zero, Nat.div_one] at this;rw [← this, ← hx]; congr 1; omega
   have hy0 : y = 0 := by
    rw [← hy]; unfold Xm; rw [if_neg (by omega)]
   rw [hy0, hx0, Nat.pow_zero, Nat.div_one, Nat.add_zero]
   show lv B32 a % B32 * B32 * 2 ^ (n % 32) / B32 % B32 = _
   rw [show lv B32 a % B32 * B32 * 2 ^ (n % 32) = B32 * (lv B32 a % B32 * 2 ^ (n % 32)) by ac_rfl, Nat.mul_div_cancel_left _ (by decide), Nat.mod_mul_mod]
  | succ j =>
   have hd := Qp1 hA j
   rw [show Xm a ((j + 1 : Nat) : Int) = x from by rw [← hx]; congr 1; omega, show Xm a ((j : Nat) : Int) = y from by rw [← hy]; congr 1; omega] at hd
   have hd' : x * 4294967296 + y = lv B32 a / B32 ^ j % (B32 * B32) := hd
   rw [hd'];exact Qv3 (by omega)
theorem Xc7 (a : List Nat) (n : Nat) (ha : a.length ≤ 4398046511104) (hA : Lim a) (hn : n ≤ 70368744177664) : Fc C 171 [NA a, .int .i64 (n : Nat)] [] fun v H => Qjr v H (lv B32 a * 2 ^ n) := by
 have hm : (if (0 : Int) > (n : Int) then (0 : Int) else (n : Int)) = (n : Int) := by rw [if_neg (by omega)]
 have hlt := Kf hA
 refine Fc.keep (Fc.bodyT Qe Tryz.func171 w171 rfl Tryz.ntmps171 Tryz.results171 (zLe rfl) ?_)
 (apply Zo;repeat' ((with_reducible first|apply Zk|(first|apply Za|apply Zb|apply Zc|apply Zd)<;>intro h)<;>try simp -implicitDefEqProofs (maxSteps:=9^7) (disch:=first|omega|(simp only [Qb];omega)) only [go_sem, hm]))
 refine Fc.pureL (Qg0 a (by omega)) ⟨.self (Xl _), trivial⟩ (fun g => rfl) rfl ?_
 (apply Zo;repeat' ((with_reducible first|apply Zk|(first|apply Za|apply Zb|apply Zc|apply Zd)<;>intro h)<;>try simp -implicitDefEqProofs (maxSteps:=9^7) (disch:=first|omega|(simp only [Qb];omega)) only [go_sem, hm]))
 ·refine IsN.ret (Qup ?_)
  have : lv B32 a = 0 := (Qbn (by decide)).2 (Qdp.1 (by omega))
  rw [this, Nat.zero_mul]
 ·have hg := Qel (f := 177) (caps := [.rp [.int .i64 (n : Nat)] 0, .rp [NA a] 0]) (N := a.length + n / 32 + 1) (xs := fun i => lv B32 a * 2 ^ n / B32 ^ i % B32) (by omega) (fun i hi => by have := Nat.mod_lt (lv B32 a * 2 ^ n / B32 ^ i) (show 0 < B32 by decide); simp only [B32] at *; omega) (by simp [Qi, clo, Xl]) (fun i hi => Qrv a n i (by omega) hA (by omega) (by omega))
  have e1 : (a.length : Int) + (n : Int) / 32 + 1 = ((a.length + n / 32 + 1 : Nat) : Int) := by omega
  rw [e1];refine Fc.isN hg (Qaz 5 (by simp [go_sem, Qb1, clo, Qi, Qd])) fun v X hv => ?_
  (apply Zo;repeat' ((with_reducible first|apply Zk|(first|apply Za|apply Zb|apply Zc|apply Zd)<;>intro h)<;>try simp -implicitDefEqProofs (maxSteps:=9^7) (disch:=first|omega|(simp only [Qb];omega)) only [go_sem]))
  have hV : lv B32 a * 2 ^ n < B32 ^ (a.length + n / 32 + 1) := by
   rw [Nat.add_assoc, Nat.pow_add];refine Nat.mul_lt_mul_of_lt_of_le hlt ?_ (Nat.pow_pos (by decide))
   rw [Qzu]; exact Nat.pow_le_pow_right (by decide) (by omega)
  rw [Qin (by decide), Nat.mod_eq_of_lt hV] at hv
  exact hv.ret
theorem Xks : Tryz.f161.body.all yOK = true := by kernel_rfl
def dn (n : Nat) : V := .fn (.func 161) [] [.rp [.int .i64 (n : Nat)] 0]
def dnQ (n : Nat) (v : V) (H : Qa) : Prop := v = .fn (.func 161) [] [.ptr 0 0] ∧ H = [some ⟨3, 1, [.int .i64 (n : Nat)]⟩]
def mx (a b : List Nat) (i : Nat) : Nat := if i = 0 then 0 else if i = 1 then a.length else max a.length b.length
theorem Xao (x y : Nat) {z : Nat} (h : max x y = z) : (if (y : Int) > (x : Int) then (y : Int) else (x : Int)) = (z : Int) := by subst h; split <;> omega
theorem Qxy (a b : List Nat) (ha : a.length ≤ 8796093022208) (hb : b.length ≤ 8796093022208) : Fc C 143 [.sl 2 [NA a, NA b]] [] fun v H => dnQ (max a.length b.length) v H := by
 refine Fc.keep (Fc.bodyT Qe Tryz.func143 w143 rfl Tryz.ntmps143 Tryz.results143 (zLe rfl) ?_)
 (apply Zo;repeat' ((with_reducible first|apply Zk|(first|apply Za|apply Zb|apply Zc|apply Zd)<;>intro h)<;>try simp -implicitDefEqProofs (maxSteps:=9^7) (disch:=first|omega|(simp only [Qb];omega)) only [go_sem]))
 refine Qf (fun n ts H => ∃ (i : Nat), (i ≤ 2) ∧ (n = 2 - i) ∧ (H = [some ⟨3, 1, [.int .i64 (mx a b i : Nat)]⟩]) ∧ ts.length = 18 ∧ nth ts 3 = .ptr 0 0 ∧ nth ts 6 = .sl 2 [NA a, NA b] ∧ nth ts 7 = .int .i64 2 ∧ nth ts 8 = .int .i64 (i : Nat)) ?_ (n := 2) ?_
 ·skip
  rintro n ts H ⟨i, hi, hn, hH, hL, hs3, hs6, hs7, hs8⟩;refine Qv [(3, .ptr 0 0), (6, .sl 2 [NA a, NA b]), (7, .int .i64 2), (8, .int .i64 (i : Nat))] hL (by simp only [zFm, hs3, hs6, hs7, hs8, true_and]; exact zNm) ?_
  clear hL hs3 hs6 hs7 hs8 ts
  refine Qu Qe ?_;subst hH
  (apply Zo;repeat' ((with_reducible first|apply Zk|(first|apply Za|apply Zb|apply Zc|apply Zd)<;>intro h)<;>try simp -implicitDefEqProofs (maxSteps:=9^7) (disch:=first|omega|(simp only [Qb];omega)) only [go_sem]))
  ·obtain rfl | rfl : i = 0 ∨ i = 1 := by omega
   ·skip
    (apply Zo;repeat' ((with_reducible first|apply Zk|(first|apply Za|apply Zb|apply Zc|apply Zd)<;>intro h)<;>try simp -implicitDefEqProofs (maxSteps:=9^7) (disch:=first|omega|(simp only [Qb];omega)) only [go_sem]))
    have e : (if (a.length : Int) > ((mx a b 0 : Nat) : Int) then (a.length : Int) else ((mx a b 0 : Nat) : Int)) = ((mx a b 1 : Nat) : Int) := Xao 0 a.length (Nat.zero_max _)
    rw [e];exact ⟨1, by omega, 1, by omega, rfl, rfl, by congr 1⟩
   ·skip
    (apply Zo;repeat' ((with_reducible first|apply Zk|(first|apply Za|apply Zb|apply Zc|apply Zd)<;>intro h)<;>try simp -implicitDefEqProofs (maxSteps:=9^7) (disch:=first|omega|(simp only [Qb];omega)) only [go_sem]))
    have e : (if (b.length : Int) > ((mx a b 1 : Nat) : Int) then (b.length : Int) else ((mx a b 1 : Nat) : Int)) = ((mx a b 2 : Nat) : Int) := Xao a.length b.length rfl
    rw [e];exact ⟨0, by omega, 2, by omega, rfl, rfl, by congr 1⟩
  ·obtain rfl : i = 2 := by omega
   exact ⟨[0], by simp, by simp, rfl, rfl⟩
 ·exact ⟨0, by omega, rfl, rfl, rfl, rfl, rfl, rfl, rfl⟩
theorem Xb1 (N : Nat) (hN : N ≤ 8796093022208) : Gen C 161 [.rp [.int .i64 (N : Nat)] 0] ((List.range N).map fun k => [.int .i64 (N - 1 - k : Nat)]) := by
 refine Gen.of3 Qe Tryz.func161 w161 Xks rfl Tryz.ntmps161 Tryz.results161 (zLe rfl) (by simp [Qi, clo]) ?_
 intro G l J hW
 (apply Zo;repeat' ((with_reducible first|apply Zk|(first|apply Za|apply Zb|apply Zc|apply Zd)<;>intro h)<;>try simp -implicitDefEqProofs (maxSteps:=9^7) (disch:=first|omega|(simp only [Qb];omega)) only [go_sem]))
 refine Qa2 (fun n ts H => ∃ (i : Nat), (i ≤ N) ∧ (n = N - i) ∧ (H.length = i) ∧ ts.length = 14 ∧ nth ts 0 = .fn (.yield l) [] [] ∧ nth ts 3 = .int .i64 ((N : Int) - 1 - i)) ?_ (n := N) ?_
 ·skip
  rintro n ts H ⟨i, hi, hn, hH, hL, hs0, hs3⟩;refine Qh0 [(0, .fn (.yield l) [] []), (3, .int .i64 ((N : Int) - 1 - i))] hL (by simp only [zFm, hs0, hs3, true_and]; exact zNm) ?_
  clear hL hs0 hs3 ts
  refine hW _ _ _ _ ?_
  (apply Zo;repeat' ((with_reducible first|apply Zk|(first|apply Za|apply Zb|apply Zc|apply Zd)<;>intro h)<;>try simp -implicitDefEqProofs (maxSteps:=9^7) (disch:=first|omega|(simp only [Qb];omega)) only [go_sem]))
  ·refine ⟨?_, ⟨N - (i + 1), by omega, i + 1, by omega, rfl, by omega, by congr 1; omega⟩, .inr trivial, .inr ?_⟩
   ·have : i < N := by omega
    rw [hH];simp [this];omega
   ·simp only [List.length_replicate, List.length_map, List.length_range]; omega
  ·refine ⟨.inl trivial, .inl ?_⟩;simp only [List.length_map, List.length_range]; omega
 ·exact ⟨0, by omega, by omega, rfl, rfl, rfl, by simp -implicitDefEqProofs (maxSteps:=9^7) (disch := first | omega | (simp only [Qb]; omega)) only [go_sem]; congr 1; omega⟩
theorem Qxz {a b : List Nat} {args : List V} {H : Qa} {K : V → Qa → Prop} (ha : a.length ≤ 8796093022208) (hb : b.length ≤ 8796093022208) (hB : BorL H args [.sl 2 [NA a, NA b]]) (hK : K (dn (max a.length b.length)) H) : Fc C 143 args H K :=
 Fc.bySeal (Qxy a b ha hb) hB (by rintro v H' ⟨rfl, rfl⟩; exact ⟨rfl, fun r row hr => by cases r with | zero => simp at hr; subst hr; rfl | succ r => simp at hr⟩) (by rintro v H' ⟨rfl, rfl⟩; exact ⟨0, _, _, _, rfl, rfl, rfl⟩) rfl hK
def Qal (x y : Nat) : Int := if x < y then -1 else if y < x then 1 else 0
theorem Qrb (a b : List Nat) (ha : a.length ≤ 8796093022208) (hb : b.length ≤ 8796093022208) (hA : Lim a) (hB : Lim b) : Pu C 122 [NA a, NA b] (.int .i64 (Qal (lv B32 a) (lv B32 b))) := by
 have hv : ∀ n, dn n = .fn (.func 161) [] [.rp [.int .i64 (n : Nat)] 0] := fun n => rfl
 refine Fc.keep (Fc.bodyT Qe Tryz.func122 w122 rfl Tryz.ntmps122 Tryz.results122 (zLe rfl) ?_)
 (apply Zo;repeat' ((with_reducible first|apply Zk|(first|apply Za|apply Zb|apply Zc|apply Zd)<;>intro h)<;>try simp -implicitDefEqProofs (maxSteps:=9^7) (disch:=first|omega|(simp only [Qb];omega)) only [go_sem]))
 refine Qxz ha hb (Qaz 5 (by simp [go_sem, Qb1, clo, Qi, Qd])) ?_
 (apply Zo;repeat' ((with_reducible first|apply Zk|(first|apply Za|apply Zb|apply Zc|apply Zd)<;>intro h)<;>try simp -implicitDefEqProofs (maxSteps:=9^7) (disch:=first|omega|(simp only [Qb];omega)) only [go_sem, hv]))
 have hN : ∀ c : List Nat, Lim c → c.length ≤ max a.length b.length → lv B32 c / B32 ^ max a.length b.length = 0 := fun c hc h => Nat.div_eq_of_lt (Nat.lt_of_lt_of_le (Kf hc) (Nat.pow_le_pow_right (by decide) h))
 generalize hNN : max a.length b.length = N at *
 have hNle : N ≤ 8796093022208 := by omega
 refine Ks (g := 161) (lb := [.rp [.int .i64 (N : Nat)] 0]) (xs := (List.range N).map fun k => [.int .i64 (N - 1 - k : Nat)]) (by simp -implicitDefEqProofs (maxSteps:=9^7) (disch := first | omega | (simp only [Qb]; omega)) only [go_sem]) (by simp [Qi, clo]) (Xb1 N hNle) (by simp) (fun k H => lv B32 a / B32 ^ (N - k) = lv B32 b / B32 ^ (N - k) ∧ H = [some ⟨56, 1, [NA a]⟩, some ⟨56, 1, [NA b]⟩, some ⟨3, 1, [.int .i64 0]⟩, some ⟨56, 1, [NA a, NA b]⟩]) ⟨by rw [Nat.sub_zero, hN a hA (by omega), hN b hB (by omega)], rfl⟩ ?_ ?_
 ·rintro k us H hk ⟨hI, rfl⟩ lp
  have hkl : k < N := by simpa using (List.getElem?_eq_some_iff.1 hk).1
  obtain rfl : [V.int .i64 ((N - 1 - k : Nat) : Int)] = us := by simpa [hkl] using hk
  (refine Qu Qe ?_; simp -implicitDefEqProofs (maxSteps:=9^7) (disch := first | omega | (simp only [Qb]; omega)) only [go_sem, Qes])
  (refine Qu Qe ?_; simp -implicitDefEqProofs (maxSteps:=9^7) (disch := first | omega | (simp only [Qb]; omega)) only [go_sem])
  refine Pc.pure (Jl a _ (by omega) hA) (by simp [go_sem, Qi, clo, Qc, Qx]) (by intro g; simp only [go_sem, ren, Ql]) ?_
  (apply Zo;repeat' ((with_reducible first|apply Zk|(first|apply Za|apply Zb|apply Zc|apply Zd)<;>intro h)<;>try simp -implicitDefEqProofs (maxSteps:=9^7) (disch:=first|omega|(simp only [Qb];omega)) only [go_sem]))
  refine Pc.pure (Jl b _ (by omega) hB) (by simp [go_sem, Qi, clo, Qc, Qx]) (by intro g; simp only [go_sem, ren, Ql]) ?_
  (apply Zo;repeat' ((with_reducible first|apply Zk|(first|apply Za|apply Zb|apply Zc|apply Zd)<;>intro h)<;>try simp -implicitDefEqProofs (maxSteps:=9^7) (disch:=first|omega|(simp only [Qb];omega)) only [go_sem, Jr]))
  all_goals
   obtain ⟨j, hj⟩ : ∃ j, N = k + 1 + j := ⟨N - k - 1, by omega⟩
   have hj1 : N - k = j + 1 := by omega
   have hj2 : N - (k + 1) = j := by omega
   have hj3 : N - 1 - k = j := by omega
   simp only [hj1, hj2, hj3] at *
   have sp : ∀ c : List Nat, Lim c → lv B32 c / B32 ^ j = B32 * (lv B32 c / B32 ^ (j + 1)) + Xm c ((j : Nat) : Int) := fun c hc => by
    rw [Qhl hc, Nat.pow_succ, ← Nat.div_div_eq_div_mul]; exact (Nat.div_add_mod _ _).symm
   have sa := sp a hA
   have sb := sp b hB
   rw [hI] at sa
  ·skip
   (refine Qo (by intro g; simp only [go_sem, ren, Ql]) ?_)
   have : lv B32 a < lv B32 b := Nat.lt_of_not_le fun hle => by
    have := Nat.div_le_div_right (c := B32 ^ j) hle
    omega
   simp [Qal, this]
  ·skip
   (refine Qo (by intro g; simp only [go_sem, ren, Ql]) ?_)
   have : lv B32 b < lv B32 a := Nat.lt_of_not_le fun hle => by
    have := Nat.div_le_div_right (c := B32 ^ j) hle
    omega
   simp [Qal, this, Nat.not_lt.2 (Nat.le_of_lt this)]
  ·omega
 ·rintro H ⟨hI, rfl⟩
  (apply Zo;repeat' ((with_reducible first|apply Zk|(first|apply Za|apply Zb|apply Zc|apply Zd)<;>intro h)<;>try simp -implicitDefEqProofs (maxSteps:=9^7) (disch:=first|omega|(simp only [Qb];omega)) only [go_sem]))
  (refine Qo (by intro g; simp only [go_sem, ren, Ql]) ?_)
  simp only [List.length_map, List.length_range, Nat.sub_self, Nat.pow_zero, Nat.div_one] at hI;rw [hI]; simp [Qal]
theorem Xi (x : Nat) : clo (Ye x) = true := Xl _
theorem IsN.gd {v : V} {H : Qa} {x : Nat} (h : IsN v H x) : Gd H v (Ye x) := IsZ.gd h (Qk _ _) (Xz _ _)
theorem Val.ofN {f : FuncId} {args : List V} {x : Nat} (h : Fc C f args [] fun v H => Qjr v H x) : Val C f args (Ye x) := Val.ofZ h (Qk _ _) (Xz _ _)
theorem Qjb (k : IntKind) : ∀ n, Qbd n [.int k 0] = Xa k (List.replicate n 0)
 | 0 => rfl
 | n + 1 => by
  have := Qjb k n
  simp only [Qbd, List.replicate_succ, Xa, List.map_cons] at this ⊢;simp [this]
theorem Qb8 {ty : TypeId → Ty} {t e n : Nat} {H : Qa} {K : V → Qa → Prop} {k : IntKind} (hs : (ty t).sl = some e) (hok : (ty e).ok = true) (hz : Xr (ty e) = [.int k 0]) (h1 : (ty e).size = 1) (hb : (ty e).bytes ≤ 8) (hn : n ≤ 17592186044416)
  (h : K (.ref H.length 0 n) (H ++ [some ⟨e, 1, Xa k (List.replicate n 0)⟩])) : Qda ty t (.int .i64 n) (.int .i64 n) H K := by
 simp only [Qda, hs];refine ⟨hok, trivial, by omega, by omega, ?_, ?_⟩
 ·have := Nat.mul_le_mul hb hn
  rw [Int.toNat_natCast]; omega
 ·rw [Int.toNat_natCast, hz, h1, Qjb]; exact h
theorem Jv (k : IntKind) (xs : List Nat) (i v : Nat) : upd (Xa k xs) i (.int k (v : Nat)) = Xa k (xs.set i v) := by
 induction xs generalizing i with
 | nil => rfl
 | cons a l ih =>
  cases i with
  | zero => rfl
  | succ i => simp only [Xa, List.map_cons, upd, List.set_cons_succ] at ih ⊢; rw [ih]
theorem Xeg (x y : Nat) (KP : V → Prop) (hx : x < 4294967296) (hy : y < 4294967296) : Je .or .u64 ((x * 4294967296 : Nat) : Int) .u64 (y : Int) KP = KP (.int .u64 ((x * 4294967296 + y : Nat) : Int)) := by
 have h : (.or : BinOp) = .or := rfl
 simp only [Je, true_and]
 have e : IntKind.wrap .u64 (((BitVec.ofInt IntKind.u64.bits ((x * 4294967296 : Nat) : Int) ||| BitVec.ofInt IntKind.u64.bits (y : Int)).toNat : Nat) : Int) = ((x * 4294967296 + y : Nat) : Int) := by
  rw [Qkf x y hx hy, Qjt (by omega)]
 exact congrArg (fun n => KP (.int .u64 n)) e
theorem Qbe {b : Nat} {l : List Nat} {i : Nat} (h : i < l.length) : lv b (l.drop i) = l.getD i 0 + b * lv b (l.drop (i + 1)) := by
 have e : l.drop i = l.getD i 0 :: l.drop (i + 1) := by
  rw [List.drop_eq_getElem_cons h]; simp [List.getD, h]
 rw [e]; rfl
theorem Jp {l : List Nat} {i m v : Nat} (h : i < m) : (l.set i v).drop m = l.drop m := by
 refine List.ext_getElem? fun j => ?_
 rw [List.getElem?_drop, List.getElem?_drop, List.getElem?_set_ne (by omega)]
theorem Qdk {l : List Nat} {i v : Nat} (h : i < l.length) : (l.set i v).getD i 0 = v := by simp [List.getD, h]
theorem Lim.set {l : List Nat} (h : Lim l) (i : Nat) {v : Nat} (hv : v < 4294967296) : Lim (l.set i v) := fun x hx => by
 rcases List.mem_or_eq_of_mem_set hx with h1 | h1
 ·exact h x h1
 ·rw [h1]; exact hv
theorem Qog {H : Qa} {r n e s : Nat} {cs : List V} (h : Qd H r = some ⟨e, s, cs⟩) (hc : Qi cs = true) : BorL H [.ref r 0 n] [.sl n cs] :=
 ⟨.ref r 0 n _ cs h (by simp) fun j hj => by simpa using .clo _ (Zi hc j), trivial⟩
theorem Qt2 (a : List Nat) (d : Nat) (ha : a.length ≤ 8796093022208) (hA : Lim a) (hd : 0 < d) (hd2 : d < 4294967296) : Val C 169 [NA a, .int .u32 (d : Nat)] (.tup [Ye (lv B32 a / d), .int .u32 (lv B32 a % d : Nat), .int .i64 0]) := by
 refine Fc.keep (Fc.bodyT Qe Tryz.func169 w169 rfl Tryz.ntmps169 Tryz.results169 (zLe rfl) ?_)
 (apply Zo;repeat' ((with_reducible first|apply Zk|(first|apply Za|apply Zb|apply Zc|apply Zd)<;>intro h)<;>try simp -implicitDefEqProofs (maxSteps:=9^7) (disch:=first|omega|(simp only [Qb];omega)) only [go_sem]))
 refine Qb8 rfl rfl rfl rfl (by simp [t59bytes]) (by omega) ?_
 (apply Zo;repeat' ((with_reducible first|apply Zk|(first|apply Za|apply Zb|apply Zc|apply Zd)<;>intro h)<;>try simp -implicitDefEqProofs (maxSteps:=9^7) (disch:=first|omega|(simp only [Qb];omega)) only [go_sem]))
 refine Qf (fun n ts H => ∃ (m : Nat) (r : Nat) (Q : List Nat), (m ≤ a.length) ∧ (Q.length = a.length) ∧ (Lim Q) ∧ (r < d) ∧ (lv B32 (Q.drop m) * d + r = lv B32 (a.drop m)) ∧ (n = m) ∧ (H = [some ⟨59, 1, Xa .u32 Q⟩]) ∧ ts.length = 46 ∧ nth ts 0 = NA a ∧ nth ts 1 = .int .u32 (d : Nat) ∧ nth ts 7 = .ref 0 0 a.length ∧ nth ts 8 = .int .u64 (r : Nat) ∧ nth ts 9 = .int .i64 ((m : Int) - 1)) ?_ (n := a.length) ?_
 ·skip
  rintro n ts H ⟨m, r, Q, hm, hQl, hQ, hr, hinv, hn, hH, hL, hs0, hs1, hs7, hs8, hs9⟩;refine Qv [(0, NA a), (1, .int .u32 (d : Nat)), (7, .ref 0 0 a.length), (8, .int .u64 (r : Nat)), (9, .int .i64 ((m : Int) - 1))] hL (by simp only [zFm, hs0, hs1, hs7, hs8, hs9, true_and]; exact zNm) ?_
  clear hL hs0 hs1 hs7 hs8 hs9 ts
  refine Qu Qe ?_;subst hH
  have hg := hA.get (m - 1)
  have hq : (r * 4294967296 + a.getD (m - 1) 0) / d < 4294967296 := by
   rw [Nat.div_lt_iff_lt_mul hd, Nat.mul_comm]
   have := Nat.mul_le_mul_right 4294967296 hr
   simp only [Nat.succ_eq_add_one, Nat.add_mul] at this;omega
  have hs := Nat.mod_lt (r * 4294967296 + a.getD (m - 1) 0) hd
  have hdm := Nat.div_add_mod (r * 4294967296 + a.getD (m - 1) 0) d
  have hq' : (((r * 4294967296 + a.getD (m - 1) 0 : Nat) : Int) / (d : Int)) = (((r * 4294967296 + a.getD (m - 1) 0) / d : Nat) : Int) := (Int.natCast_ediv _ _).symm
  have hr' : (((r * 4294967296 + a.getD (m - 1) 0 : Nat) : Int) % (d : Int)) = (((r * 4294967296 + a.getD (m - 1) 0) % d : Nat) : Int) := (Int.natCast_emod _ _).symm
  generalize (r * 4294967296 + a.getD (m - 1) 0) / d = q at *;generalize (r * 4294967296 + a.getD (m - 1) 0) % d = s at *
  (apply Zo;repeat' ((with_reducible first|apply Zk|(first|apply Za|apply Zb|apply Zc|apply Zd)<;>intro h)<;>try simp -implicitDefEqProofs (maxSteps:=9^7) (disch:=first|omega|(simp only [Qb];omega)) only [go_sem, Qi7, Xeg, hq', hr']))
  ·have hm1 : 0 < m := by omega
   refine ⟨m - 1, by omega, m - 1, _, _, by omega, ?_, ?_, hs, ?_, rfl, by rw [Jv], rfl, by congr 1; omega⟩
   ·rw [List.length_set]; exact hQl
   ·exact Lim.set hQ _ hq
   ·rw [Qbe (l := a) (by omega), Qbe (l := Q.set _ _) (by rw [List.length_set]; omega), Qdk (by omega), Jp (by omega), show m - 1 + 1 = m by omega, ← hinv]
    generalize lv B32 (Q.drop m) = z;simp only [Nat.add_mul, Nat.mul_add, B32];rw [Nat.mul_assoc 4294967296 z d, Nat.mul_comm q d, Nat.mul_comm 4294967296 r];omega
  ·obtain rfl : m = 0 := by omega
   simp only [List.drop_zero] at hinv
   have hqv : lv B32 a / d = lv B32 Q := by rw [← hinv, Nat.mul_comm, Nat.mul_add_div hd, Nat.div_eq_of_lt hr, Nat.add_zero]
   have hrv : lv B32 a % d = r := by rw [← hinv, Nat.mul_comm, Nat.mul_add_mod, Nat.mod_eq_of_lt hr]
   refine Fc.isN (Qf5 Q (by omega) hQ) (by rw [← hQl]; exact Qog rfl (Qk _ _)) fun v X hv => ?_
   (apply Zo;repeat' ((with_reducible first|apply Zk|(first|apply Za|apply Zb|apply Zc|apply Zd)<;>intro h)<;>try simp -implicitDefEqProofs (maxSteps:=9^7) (disch:=first|omega|(simp only [Qb];omega)) only [go_sem]))
   rw [hqv, hrv];refine Gd.ret (Gd.tupL ?_);exact ⟨hv.gd, .leaf _ rfl rfl, .leaf _ rfl rfl, trivial⟩
 ·refine ⟨a.length, 0, List.replicate a.length 0, Nat.le_refl _, by simp, fun x hx => by simp at hx; omega, hd, by simp [lv], rfl, rfl, rfl, rfl, rfl, rfl, rfl, rfl⟩
theorem Xez {l : List Nat} {k : Nat} (h : l.length = k + 2) : lv B32 l = (l.getD (k + 1) 0 * B32 + l.getD k 0) * B32 ^ k + lv B32 (l.take k) := by
 rw [Km B32 l k (by omega), Qbe (by omega), Qbe (by omega), List.drop_of_length_le (by omega), lv]
 rw [Nat.mul_comm (B32 ^ k), Nat.mul_zero, Nat.add_zero, Nat.mul_comm B32, Nat.add_comm (l.getD k 0), Nat.add_comm]
theorem Xey {l : List Nat} {k : Nat} (h : l.length = k + 3) : lv B32 l = ((l.getD (k + 2) 0 * B32 + l.getD (k + 1) 0) * B32 + l.getD k 0) * B32 ^ k + lv B32 (l.take k) := by
 rw [Km B32 l k (by omega), Qbe (by omega), Qbe (by omega), Qbe (by omega), List.drop_of_length_le (by omega), lv]
 rw [Nat.mul_comm (B32 ^ k), Nat.mul_zero, Nat.add_zero, Nat.mul_comm B32, Nat.mul_comm B32, Nat.add_comm (l.getD k 0), Nat.add_comm (l.getD (k + 1) 0), Nat.add_comm]
 rfl
theorem Qea (x : Nat) : (x : Int).fdiv (2 ^ min 32 64) = ((x / 4294967296 : Nat) : Int) := Qar x 32
theorem Qs2 (u v : List Nat) (k : Nat) (hv : v.length = k + 2) (hu : u.length = k + 3) (hk : k ≤ 8796093022208) (hU : Lim u) (hV : Lim v) (hbig : 2147483648 ≤ v.getD (k + 1) 0) (hlt : lv B32 u < B32 * lv B32 v) :
  Fc C 172 [NA u, NA v] [] fun r H => H = [] ∧ ∃ g : Nat, r = .int .u64 (g : Nat) ∧ lv B32 u / lv B32 v ≤ g ∧ g ≤ lv B32 u / lv B32 v + 1 ∧ g < B32 := by
 have hG : Gs B32 (B32 ^ k) (lv B32 v) (lv B32 u) (v.getD (k + 1) 0) (v.getD k 0) (u.getD (k + 2) 0 * B32 + u.getD (k + 1) 0) (u.getD k 0) :=
  ⟨⟨_, Kl hV k (by omega), Xez hv⟩, ⟨_, Kl hU k (by omega), Xey hu⟩, hV.get k, hU.get k, hV.get (k + 1), by simp only [B32]; omega, hlt⟩
 have g0 := hU.get (k + 2)
 have g1 := hU.get (k + 1)
 have g2 := hU.get k
 have g3 := hV.get (k + 1)
 have g4 := hV.get k
 have n1 : k + 2 - 1 = k + 1 := rfl
 have n2 : k + 2 - 2 = k := rfl
 have n3 : (((k + 2 : Nat) : Int) - 2).toNat = k := by omega
 obtain ⟨q0, hq0⟩ : ∃ q, q = (u.getD (k + 2) 0 * 4294967296 + u.getD (k + 1) 0) / v.getD (k + 1) 0 := ⟨_, rfl⟩;obtain ⟨r0, hr0⟩ : ∃ r, r = (u.getD (k + 2) 0 * 4294967296 + u.getD (k + 1) 0) % v.getD (k + 1) 0 := ⟨_, rfl⟩
 have hq : (((u.getD (k + 2) 0 * 4294967296 + u.getD (k + 1) 0 : Nat) : Int) / ((v.getD (k + 1) 0 : Nat) : Int)) = ((q0 : Nat) : Int) := by rw [hq0]; exact (Int.natCast_ediv _ _).symm
 have hr : (((u.getD (k + 2) 0 * 4294967296 + u.getD (k + 1) 0 : Nat) : Int) % ((v.getD (k + 1) 0 : Nat) : Int)) = ((r0 : Nat) : Int) := by rw [hr0]; exact (Int.natCast_emod _ _).symm
 have hq1 : lv B32 u / lv B32 v ≤ q0 := by rw [hq0]; exact hG.first_le
 have hq2 : q0 ≤ 4294967297 := by rw [hq0]; exact hG.first_ge
 have hr1 : r0 < v.getD (k + 1) 0 := by rw [hr0]; exact Nat.mod_lt _ (by omega)
 have hqr : q0 * v.getD (k + 1) 0 + r0 = u.getD (k + 2) 0 * B32 + u.getD (k + 1) 0 := by rw [hq0, hr0, Nat.mul_comm]; exact Nat.div_add_mod _ _
 refine Fc.keep (Fc.bodyT Qe Tryz.func172 w172 rfl Tryz.ntmps172 Tryz.results172 (zLe rfl) ?_)
 (apply Zo;repeat' ((with_reducible first|apply Zk|(first|apply Za|apply Zb|apply Zc|apply Zd)<;>intro h)<;>try simp -implicitDefEqProofs (maxSteps:=9^7) (disch:=first|omega|(simp only [Qb];omega)) only [go_sem, Qi7, Xeg, hv, hu, n1, hq, hr]))
 refine Qf (fun n ts H => ∃ (g : Nat) (r : Nat), (lv B32 u / lv B32 v ≤ g) ∧ (g ≤ 4294967297) ∧ (g * v.getD (k + 1) 0 + r = u.getD (k + 2) 0 * B32 + u.getD (k + 1) 0) ∧ (r < 4294967296) ∧ (n = g) ∧ (H = []) ∧ ts.length = 77 ∧ nth ts 0 = .sl (k + 3) (Xa .u32 u) ∧ nth ts 1 = .sl (k + 2) (Xa .u32 v) ∧ nth ts 5 = .int .i64 (k + 2 : Nat) ∧ nth ts 7 = .int .u64 (g : Nat) ∧ nth ts 8 = .int .u64 (r : Nat)) ?_ (n := q0) ?_
 ·skip
  rintro n ts H ⟨g, r, hg1, hg2, hgr, hrB, hn, hH, hL, hs0, hs1, hs5, hs7, hs8⟩;refine Qv [(0, .sl (k + 3) (Xa .u32 u)), (1, .sl (k + 2) (Xa .u32 v)), (5, .int .i64 (k + 2 : Nat)), (7, .int .u64 (g : Nat)), (8, .int .u64 (r : Nat))] hL (by simp only [zFm, hs0, hs1, hs5, hs7, hs8, true_and]; exact zNm) ?_
  clear hL hs0 hs1 hs5 hs7 hs8 ts
  refine Qu Qe ?_;subst hH;rcases Nat.lt_or_ge g 4294967296 with hgB | hgB
  ·have hgv : g * v.getD k 0 ≤ 4294967295 * 4294967295 := Nat.mul_le_mul (by omega) (by omega)
   generalize hgv' : g * v.getD k 0 = gv at hgv
   have hgc : ((g : Nat) : Int) * ((v.getD k 0 : Nat) : Int) = ((gv : Nat) : Int) := by rw [← hgv']; exact (Int.natCast_mul _ _).symm
   have e4 : ∀ r : Nat, (r : Int) + ((v.getD (k + 1) 0 : Nat) : Int) = ((r + v.getD (k + 1) 0 : Nat) : Int) := fun r => (Int.natCast_add _ _).symm
   have hdown := fun hc => hG.step hgr hg1 hg2 (Or.inr hc)
   (apply Zo;repeat' ((with_reducible first|apply Zk|(first|apply Za|apply Zb|apply Zc|apply Zd)<;>intro h)<;>try simp -implicitDefEqProofs (maxSteps:=9^7) (disch:=first|omega|(simp only [Qb];omega)) only [go_sem, Qi7, Xeg, hv, hu, n1, n2, n3, Qea, hgc]))
   ·rename_i h0;rw [e4, Qea] at h;obtain ⟨g', rfl, j1, j2, j3, j4⟩ := hdown (by rw [hgv']; simp only [B32]; omega)
    obtain ⟨j5, j6⟩ := j4 (by simp only [B32]; omega)
    have e5 : IntKind.wrap .u64 (((g' + 1 : Nat) : Int) - 1) = (g' : Int) := by rw [Qjt (by omega)]; omega
    rw [e5];exact ⟨[], by simp, by simp, rfl, g', rfl, j1, by omega, j6⟩
   ·rename_i h0;rw [e4, Qea] at h;obtain ⟨g', rfl, j1, j2, j3, j4⟩ := hdown (by rw [hgv']; simp only [B32]; omega)
    have e5 : IntKind.wrap .u64 (((g' + 1 : Nat) : Int) - 1) = (g' : Int) := by rw [Qjt (by omega)]; omega
    exact ⟨g', by omega, g', r + v.getD (k + 1) 0, j1, by omega, j3, by omega, rfl, by rw [e5], rfl⟩
   ·exact ⟨[], by simp, by simp, rfl, g, rfl, hg1, hG.end1 hgr hgB (by rw [hgv']; simp only [B32]; omega), hgB⟩
  ·have e4 : ∀ r : Nat, (r : Int) + ((v.getD (k + 1) 0 : Nat) : Int) = ((r + v.getD (k + 1) 0 : Nat) : Int) := fun r => (Int.natCast_add _ _).symm
   obtain ⟨g', rfl, j1, j2, j3, j4⟩ := hG.step hgr hg1 hg2 (Or.inl hgB)
   (apply Zo;repeat' ((with_reducible first|apply Zk|(first|apply Za|apply Zb|apply Zc|apply Zd)<;>intro h)<;>try simp -implicitDefEqProofs (maxSteps:=9^7) (disch:=first|omega|(simp only [Qb];omega)) only [go_sem, Qi7, Xeg, hv, hu, n1, n2, n3, Qea]))
   ·rw [e4, Qea] at h;obtain ⟨j5, j6⟩ := j4 (by simp only [B32]; omega)
    have e5 : (((g' + 1 : Nat) : Int) - 1) = (g' : Int) := by omega
    rw [e5];exact ⟨[], by simp, by simp, rfl, g', rfl, j1, by omega, j6⟩
   ·rw [e4, Qea] at h
    have e5 : (((g' + 1 : Nat) : Int) - 1) = (g' : Int) := by omega
    exact ⟨g', by omega, g', r + v.getD (k + 1) 0, j1, by omega, j3, by omega, rfl, by rw [e5], rfl⟩
 ·exact ⟨q0, r0, hq1, hq2, hqr, by omega, rfl, rfl, rfl, rfl, rfl, rfl, rfl, rfl⟩
theorem Xjo (x y : Nat) (KP : V → Prop) (hx : x < 4294967296) (hy : y < 4294967296) : Je .and .u32 (x : Int) .u32 (y : Int) KP = KP (.int .u32 ((x &&& y : Nat) : Int)) := by
 simp only [Je, true_and]
 have e : IntKind.wrap .u32 (((BitVec.ofInt IntKind.u32.bits (x : Int) &&& BitVec.ofInt IntKind.u32.bits (y : Int)).toNat : Nat) : Int) = ((x &&& y : Nat) : Int) := by
  have h1 : (BitVec.ofInt IntKind.u32.bits (x : Int) &&& BitVec.ofInt IntKind.u32.bits (y : Int)).toNat = x &&& y := Xf8 (k := 32) (by omega) (by omega)
  have h2 : x &&& y < 2 ^ 32 := Nat.and_lt_two_pow x (by omega)
  rw [h1, Qgx (by omega)]
 exact congrArg (fun n => KP (.int .u32 n)) e
theorem Xk3 (x y : Nat) (KP : V → Prop) (hx : x < 4294967296) (hy : y < 4294967296) : Je .or .u32 (x : Int) .u32 (y : Int) KP = KP (.int .u32 ((x ||| y : Nat) : Int)) := by
 simp only [Je, true_and]
 have e : IntKind.wrap .u32 (((BitVec.ofInt IntKind.u32.bits (x : Int) ||| BitVec.ofInt IntKind.u32.bits (y : Int)).toNat : Nat) : Int) = ((x ||| y : Nat) : Int) := by
  have h1 : (BitVec.ofInt IntKind.u32.bits (x : Int) ||| BitVec.ofInt IntKind.u32.bits (y : Int)).toNat = x ||| y := Qzy (k := 32) (by omega) (by omega)
  have h2 : x ||| y < 2 ^ 32 := Nat.or_lt_two_pow (by omega) (by omega)
  rw [h1, Qgx (by omega)]
 exact congrArg (fun n => KP (.int .u32 n)) e
theorem Xg2 (x y : Nat) (KP : V → Prop) (hx : x < 4294967296) (hy : y < 4294967296) : Je .xor .u32 (x : Int) .u32 (y : Int) KP = KP (.int .u32 ((x ^^^ y : Nat) : Int)) := by
 simp only [Je, true_and]
 have e : IntKind.wrap .u32 (((BitVec.ofInt IntKind.u32.bits (x : Int) ^^^ BitVec.ofInt IntKind.u32.bits (y : Int)).toNat : Nat) : Int) = ((x ^^^ y : Nat) : Int) := by
  have h1 : (BitVec.ofInt IntKind.u32.bits (x : Int) ^^^ BitVec.ofInt IntKind.u32.bits (y : Int)).toNat = x ^^^ y := Qt5 (k := 32) (by omega) (by omega)
  have h2 : x ^^^ y < 2 ^ 32 := Nat.xor_lt_two_pow (by omega) (by omega)
  rw [h1, Qgx (by omega)]
 exact congrArg (fun n => KP (.int .u32 n)) e
def cpl (x : Nat) : Nat := 4294967295 ^^^ x
theorem Qtg {x : Nat} (h : x < 4294967296) : cpl x < 4294967296 := Nat.xor_lt_two_pow (n := 32) (by omega) (by omega)
theorem Xlo (x : Nat) (KP : V → Prop) (hx : x < 4294967296) : unw .xor (.int .u32 (x : Int)) KP = KP (.int .u32 ((cpl x : Nat) : Int)) := by
 have h1 : (BitVec.ofInt 32 ((4294967295 : Nat) : Int) ^^^ BitVec.ofInt 32 (x : Int)).toNat = 4294967295 ^^^ x := Qt5 (k := 32) (by omega) (by omega)
 have h2 := Qtg hx
 have e : IntKind.wrap .u32 (((BitVec.ofInt 32 ((4294967295 : Nat) : Int) ^^^ BitVec.ofInt 32 (x : Int)).toNat : Nat) : Int) = ((cpl x : Nat) : Int) := by
  rw [h1, Qgx (by simp only [cpl] at h2; omega)]; rfl
 exact congrArg (fun n => KP (.int .u32 n)) e
theorem Xk0 (x : Nat) : (x : Int).fdiv (2 ^ min 31 32) = ((x / 2147483648 : Nat) : Int) := Qar x 31
theorem Qtr {x y b d : Nat} (hx : x < 4294967296) (hy : y < 4294967296) (hb : b ≤ 1) (hd : d = (x + 8589934592 - y - b) % 4294967296) : (cpl x &&& y ||| cpl (x ^^^ y) &&& d) / 2147483648 = if x < y + b then 1 else 0 := by
 have e : ∀ n : Nat, n / 2147483648 = n >>> 31 := fun n => by rw [Nat.shiftRight_eq_div_pow]
 have hdl : d < 4294967296 := by rw [hd]; exact Nat.mod_lt _ (by decide)
 rw [e, Nat.shiftRight_or_distrib, Nat.shiftRight_and_distrib, Nat.shiftRight_and_distrib];simp only [cpl, Nat.shiftRight_xor_distrib];rw [← e, ← e, ← e, ← e]
 have hx1 : x / 2147483648 = 0 ∨ x / 2147483648 = 1 := by omega
 have hy1 : y / 2147483648 = 0 ∨ y / 2147483648 = 1 := by omega
 have hd1 : d / 2147483648 = 0 ∨ d / 2147483648 = 1 := by omega
 rcases hx1 with hx1 | hx1 <;> rcases hy1 with hy1 | hy1 <;> rcases hd1 with hd1 | hd1 <;> rw [hx1, hy1, hd1] <;> simp <;> omega
theorem Qj2 (x y b : Nat) (hx : x < 4294967296) (hy : y < 4294967296) (hb : b ≤ 1) : Pu C 178 [.int .u32 (x : Nat), .int .u32 (y : Nat), .int .u32 (b : Nat)] (.tup [.int .u32 ((x + 8589934592 - y - b) % 4294967296 : Nat), .int .u32 (if x < y + b then 1 else 0 : Nat)]) := by
 obtain ⟨d, hd⟩ : ∃ d, d = (x + 8589934592 - y - b) % 4294967296 := ⟨_, rfl⟩
 have hdl : d < 4294967296 := by rw [hd]; exact Nat.mod_lt _ (by decide)
 have hw : IntKind.wrap .u32 (IntKind.wrap .u32 ((x : Int) - (y : Int)) - (b : Int)) = (d : Int) := by rw [Qc5, Qc5, hd]; omega
 have c1 := Qtg hx
 have c2 : x ^^^ y < 4294967296 := Nat.xor_lt_two_pow (n := 32) (by omega) (by omega)
 have c3 := Qtg c2
 have c4 : cpl x &&& y < 4294967296 := Nat.and_lt_two_pow (n := 32) _ (by omega)
 have c5 : cpl (x ^^^ y) &&& d < 4294967296 := Nat.and_lt_two_pow (n := 32) _ (by omega)
 rw [← hd];refine Fc.keep (Fc.bodyT Qe Tryz.func178 w178 rfl Tryz.ntmps178 Tryz.results178 (zLe rfl) ?_)
 (apply Zo;repeat' ((with_reducible first|apply Zk|(first|apply Za|apply Zb|apply Zc|apply Zd)<;>intro h)<;>try simp -implicitDefEqProofs (maxSteps:=9^7) (disch:=first|omega|(simp only [Qb];omega)) only [go_sem, hw, Xlo, Xjo, Xk3, Xg2, Xk0]))
 (refine Qo (by intro g; simp only [go_sem, ren, Ql]) ?_)
 rw [Qtr hx hy hb hd]
theorem Qtx (x y b : Nat) (hx : x < 4294967296) (hy : y < 4294967296) (hb : b ≤ 1) : Pu C 179 [.int .u32 (x : Nat), .int .u32 (y : Nat), .int .u32 (b : Nat)] (.tup [.int .u32 ((x + y + b) % 4294967296 : Nat), .int .u32 ((x + y + b) / 4294967296 : Nat)]) := by
 have e1 : (x : Int) + (y : Int) + (b : Int) = ((x + y + b : Nat) : Int) := by omega
 have e2 : IntKind.wrap .u32 ((x + y + b : Nat) : Int) = (((x + y + b) % 4294967296 : Nat) : Int) := by rw [Qc5]; omega
 refine Fc.keep (Fc.bodyT Qe Tryz.func179 w179 rfl Tryz.ntmps179 Tryz.results179 (zLe rfl) ?_)
 (apply Zo;repeat' ((with_reducible first|apply Zk|(first|apply Za|apply Zb|apply Zc|apply Zd)<;>intro h)<;>try simp -implicitDefEqProofs (maxSteps:=9^7) (disch:=first|omega|(simp only [Qb];omega)) only [go_sem, e1, e2, Qea]))
 (refine Qo (by intro g; simp only [go_sem, ren, Ql]) ?_)
 rw [← Nat.add_assoc, e2]
theorem Qg5 {W : List Nat} {j i d : Nat} (h : j + i < W.length) : ((W.set (j + i) d).drop j).take (i + 1) = (W.drop j).take i ++ [d] := by
 refine List.ext_getElem? fun k => ?_
 rw [List.getElem?_take];by_cases hk : k < i + 1
 ·rw [if_pos hk, List.getElem?_drop];by_cases e : k = i
  ·subst e;rw [List.getElem?_set_self h, List.getElem?_append_right (by rw [List.length_take]; omega), List.length_take, List.length_drop, Nat.min_eq_left (by omega)]
   simp
  ·rw [List.getElem?_set_ne (by omega), List.getElem?_append_left (by rw [List.length_take, List.length_drop]; omega), List.getElem?_take, if_pos (by omega), List.getElem?_drop]
 ·rw [if_neg hk, List.getElem?_eq_none];rw [List.length_append, List.length_take, List.length_drop]; simp; omega
theorem Qfv {W : List Nat} {j i : Nat} (h : j + i < W.length) : (W.drop j).take (i + 1) = (W.drop j).take i ++ [W.getD (j + i) 0] := by
 rw [List.take_add_one]; simp [List.getD, h]
theorem Qbl {W : List Nat} {j i : Nat} (h : j + i ≤ W.length) : ((W.drop j).take i).length = i := by rw [List.length_take, List.length_drop]; omega
theorem Qhq {W X : List Nat} {s : Nat} (h : W.drop s = X.drop s) : W.getD s 0 = X.getD s 0 := by
 have := congrArg (fun l : List Nat => l.getD 0 0) h
 simpa [List.getD, List.getElem?_drop] using this
theorem Qbg {W : List Nat} {j s d : Nat} (h : j ≤ s) : (W.set s d).take j = W.take j := by
 refine List.ext_getElem? fun k => ?_
 rw [List.getElem?_take, List.getElem?_take];split
 ·rw [List.getElem?_set_ne (by omega)]
 ·rfl
structure Tk (j : Nat) (v : List Nat) (q : Nat) (W : List Nat) (i : Nat) (Wi : List Nat) (c bw : Nat) : Prop where
 len : Wi.length = W.length
 lim : Lim Wi
 lo : Wi.take j = W.take j
 hi : Wi.drop (j + i) = W.drop (j + i)
 eq : lv B32 ((Wi.drop j).take i) + q * lv B32 (v.take i) = lv B32 ((W.drop j).take i) + B32 ^ i * (c + bw)
 c : c < 4294967296
 bw : bw ≤ 1
theorem Tk.next {j : Nat} {v : List Nat} {q : Nat} {W : List Nat} {i : Nat} {Wi : List Nat} {c bw : Nat} (h : Tk j v q W i Wi c bw) (hi : i < v.length) (hW : j + v.length < W.length) (hq : q < 4294967296) (hV : Lim v) {p d b' : Nat} (hp : p = q * v.getD i 0 + c) (hd : d = (Wi.getD (j + i) 0 + 8589934592 - p % 4294967296 - bw) % 4294967296) (hb : b' = if Wi.getD (j + i) 0 < p % 4294967296 + bw then 1 else 0) :
  Tk j v q W (i + 1) (Wi.set (j + i) d) (p / 4294967296) b' := by
 have hs : j + i < Wi.length := by rw [h.len]; omega
 have hw := h.lim.get (j + i)
 have hb1 : b' ≤ 1 := by rw [hb]; split <;> omega
 have hdl : d < 4294967296 := by rw [hd]; exact Nat.mod_lt _ (by decide)
 have hg := Qhq h.hi
 have hm := Nat.mod_lt p (show 0 < 4294967296 by decide)
 have hbw := h.bw
 have hdb : d + (p % 4294967296 + bw) = Wi.getD (j + i) 0 + 4294967296 * b' := by rw [hd, hb]; split <;> omega
 have hpl : p < 4294967296 * 4294967296 := by
  have := Nat.mul_le_mul (show q ≤ 4294967295 by omega) (show v.getD i 0 ≤ 4294967295 by have := hV.get i; omega)
  have := h.c
  omega
 refine ⟨by rw [List.length_set, h.len], Lim.set h.lim _ hdl, by rw [Qbg (by omega), h.lo], ?_, ?_, (Nat.div_lt_iff_lt_mul (by decide)).2 hpl, hb1⟩
 ·rw [← Nat.add_assoc, Jp (Nat.lt_succ_self _)]
  have := congrArg (List.drop 1) h.hi
  rwa [List.drop_drop, List.drop_drop] at this
 ·rw [Qg5 hs, Ke, Qbl (by omega), Qfv (W := W) (by omega), Ke, Qbl (by omega), Qfg hi, Nat.pow_succ, ← hg]
  have heq := h.eq
  have hpm := Nat.mod_add_div p 4294967296
  rw [Nat.mul_add];generalize B32 ^ i = P at *
  have e1 : q * (P * v.getD i 0) = P * (q * v.getD i 0) := by ac_rfl
  rw [e1, Nat.mul_assoc]
  have e2 : P * (c + bw) + (P * d + P * (q * v.getD i 0)) = P * Wi.getD (j + i) 0 + P * (B32 * (p / 4294967296 + b')) := by
   rw [← Nat.mul_add, ← Nat.mul_add, ← Nat.mul_add]
   congr 1
   simp only [B32];omega
  omega
theorem Tk.last {j : Nat} {v : List Nat} {q : Nat} {W Wi : List Nat} {c bw : Nat} (h : Tk j v q W v.length Wi c bw) (hW : j + v.length < W.length) {d b' : Nat} (hd : d = (Wi.getD (j + v.length) 0 + 8589934592 - c - bw) % 4294967296) (hb : b' = if Wi.getD (j + v.length) 0 < c + bw then 1 else 0) :
  (Wi.set (j + v.length) d).length = W.length ∧ Lim (Wi.set (j + v.length) d) ∧ (Wi.set (j + v.length) d).take j = W.take j ∧ (Wi.set (j + v.length) d).drop (j + (v.length + 1)) = W.drop (j + (v.length + 1)) ∧
   lv B32 (((Wi.set (j + v.length) d).drop j).take (v.length + 1)) + q * lv B32 v = lv B32 ((W.drop j).take (v.length + 1)) + B32 ^ (v.length + 1) * b' ∧ b' ≤ 1 := by
 have hs : j + v.length < Wi.length := by rw [h.len]; omega
 have hw := h.lim.get (j + v.length)
 have hdl : d < 4294967296 := by rw [hd]; exact Nat.mod_lt _ (by decide)
 have hg := Qhq h.hi
 have hc := h.c
 have hbw := h.bw
 have hb1 : b' ≤ 1 := by rw [hb]; split <;> omega
 have hdb : d + (c + bw) = Wi.getD (j + v.length) 0 + 4294967296 * b' := by rw [hd, hb]; split <;> omega
 refine ⟨by rw [List.length_set, h.len], Lim.set h.lim _ hdl, by rw [Qbg (by omega), h.lo], ?_, ?_, hb1⟩
 ·rw [← Nat.add_assoc, Jp (Nat.lt_succ_self _)]
  have := congrArg (List.drop 1) h.hi
  rwa [List.drop_drop, List.drop_drop] at this
 ·rw [Qg5 hs, Ke, Qbl (by omega), Qfv (W := W) (by omega), Ke, Qbl (by omega), Nat.pow_succ, ← hg]
  have heq := h.eq
  rw [List.take_length] at heq;generalize B32 ^ v.length = P at *;rw [Nat.mul_assoc]
  have e2 : P * (c + bw) + P * d = P * Wi.getD (j + v.length) 0 + P * (B32 * b') := by
   rw [← Nat.mul_add, ← Nat.mul_add]
   congr 1
   simp only [B32];omega
  omega
theorem List.set_getElem_self_of_row {H : Qa} {r : Nat} {row : Row} (h : Qd H r = some row) : H.set r (some row) = H := by
 refine List.ext_getElem? fun k => ?_
 by_cases e : r = k
 ·subst e; rw [List.getElem?_set_self (Xg h), Xn h]
 ·rw [List.getElem?_set_ne e]
theorem Qvw {ro j q : Nat} {H0 : Qa} {v W : List Nat} (hr : Qd H0 ro = some ⟨59, 1, Xa .u32 W⟩) (hW : j + v.length < W.length) (hWl : W.length ≤ 8796093022208) (hL : Lim W) (hV : Lim v) (hq : q < 4294967296) :
  Fc C 173 [.ref ro j (v.length + 1), NA v, .int .u64 (q : Nat)] H0 fun r H' => ∃ W' b', r = .bool (b' == 1) ∧ H' = H0.set ro (some ⟨59, 1, Xa .u32 W'⟩) ∧ b' ≤ 1 ∧ W'.length = W.length ∧ Lim W' ∧ W'.take j = W.take j ∧ W'.drop (j + v.length + 1) = W.drop (j + v.length + 1) ∧ lv B32 ((W'.drop j).take (v.length + 1)) + q * lv B32 v = lv B32 ((W.drop j).take (v.length + 1)) + B32 ^ (v.length + 1) * b' := by
 have hrow : ∀ Wi : List Nat, Qd (H0.set ro (some ⟨59, 1, Xa .u32 Wi⟩)) ro = some ⟨59, 1, Xa .u32 Wi⟩ := fun Wi => Qg hr
 have hset : ∀ (Wi : List Nat) (z : Option Row), (H0.set ro (some ⟨59, 1, Xa .u32 Wi⟩)).set ro z = H0.set ro z := fun Wi z => List.set_set ..
 have h00 : H0.set ro (some ⟨59, 1, Xa .u32 W⟩) = H0 := List.set_getElem_self_of_row hr
 refine Fc.bodyT Qe Tryz.func173 w173 rfl Tryz.ntmps173 Tryz.results173 (zLe rfl) ?_
 (apply Zo;repeat' ((with_reducible first|apply Zk|(first|apply Za|apply Zb|apply Zc|apply Zd)<;>intro h)<;>try simp -implicitDefEqProofs (maxSteps:=9^7) (disch:=first|omega|(simp only [Qb];omega)) only [go_sem]))
 refine Qf (fun n ts H => ∃ (i : Nat) (c : Nat) (bw : Nat) (Wi : List Nat), (i ≤ v.length) ∧ (Tk j v q W i Wi c bw) ∧ (n = v.length - i) ∧ (H = H0.set ro (some ⟨59, 1, Xa .u32 Wi⟩)) ∧ ts.length = 60 ∧ nth ts 0 = .ref ro j (v.length + 1) ∧ nth ts 1 = NA v ∧ nth ts 2 = .int .u64 (q : Nat) ∧ nth ts 7 = .int .u64 (c : Nat) ∧ nth ts 8 = .int .u32 (bw : Nat) ∧ nth ts 12 = NA v ∧ nth ts 13 = .int .i64 (v.length : Nat) ∧ nth ts 14 = .int .i64 (i : Nat)) ?_ (n := v.length) ?_
 ·skip
  rintro n ts H ⟨i, c, bw, Wi, hi, hT, hn, hH, hL, hs0, hs1, hs2, hs7, hs8, hs12, hs13, hs14⟩;refine Qv [(0, .ref ro j (v.length + 1)), (1, NA v), (2, .int .u64 (q : Nat)), (7, .int .u64 (c : Nat)), (8, .int .u32 (bw : Nat)), (12, NA v), (13, .int .i64 (v.length : Nat)), (14, .int .i64 (i : Nat))] hL (by simp only [zFm, hs0, hs1, hs2, hs7, hs8, hs12, hs13, hs14, true_and]; exact zNm) ?_
  clear hL hs0 hs1 hs2 hs7 hs8 hs12 hs13 hs14 ts
  refine Qu Qe ?_;subst hH
  have g1 := hV.get i
  have hc := hT.c
  have hbw := hT.bw
  have hlen := hT.len
  have hqv : q * v.getD i 0 ≤ 4294967295 * 4294967295 := Nat.mul_le_mul (by omega) (by omega)
  generalize hqv' : q * v.getD i 0 = pv at hqv
  have hm : ((q : Nat) : Int) * ((v.getD i 0 : Nat) : Int) = ((pv : Nat) : Int) := by rw [← hqv']; exact (Int.natCast_mul _ _).symm
  have ha : ((pv : Nat) : Int) + ((c : Nat) : Int) = ((pv + c : Nat) : Int) := (Int.natCast_add _ _).symm
  have hrw := hrow Wi
  (apply Zo;repeat' ((with_reducible first|apply Zk|(first|apply Za|apply Zb|apply Zc|apply Zd)<;>intro h)<;>try simp -implicitDefEqProofs (maxSteps:=9^7) (disch:=first|omega|(simp only [Qb];omega)) only [go_sem, hm, ha, Qea, hrw, hset]))
  ·rw [Qjs]
   have hwi := hT.lim.get (j + i)
   have hpm := Nat.mod_lt (pv + c) (show 0 < 4294967296 by decide)
   refine Fc.pure (Qj2 (Wi.getD (j + i) 0) ((pv + c) % 4294967296) bw hwi hpm hbw) rfl (fun g => rfl) ?_
   obtain ⟨d, hd⟩ : ∃ d, d = (Wi.getD (j + i) 0 + 8589934592 - (pv + c) % 4294967296 - bw) % 4294967296 := ⟨_, rfl⟩;obtain ⟨b', hb'⟩ : ∃ b' : Nat, b' = if Wi.getD (j + i) 0 < (pv + c) % 4294967296 + bw then 1 else 0 := ⟨_, rfl⟩
   rw [← hd, ← hb']
   have hN := hT.next (by omega) hW hq hV (p := pv + c) (by rw [hqv']) hd hb'
   (apply Zo;repeat' ((with_reducible first|apply Zk|(first|apply Za|apply Zb|apply Zc|apply Zd)<;>intro h)<;>try simp -implicitDefEqProofs (maxSteps:=9^7) (disch:=first|omega|(simp only [Qb];omega)) only [go_sem, hm, ha, Qea, hrw, hset, Jv]))
   exact ⟨v.length - (i + 1), by omega, i + 1, _, _, _, by omega, hN, rfl, rfl, rfl, rfl, rfl⟩
  ·obtain rfl : i = v.length := by omega
   have hwi := hT.lim.get (j + v.length)
   refine Fc.pure (Qj2 (Wi.getD (j + v.length) 0) c bw hwi hc hbw) rfl (fun g => rfl) ?_
   obtain ⟨d, hd⟩ : ∃ d, d = (Wi.getD (j + v.length) 0 + 8589934592 - c - bw) % 4294967296 := ⟨_, rfl⟩;obtain ⟨b', hb'⟩ : ∃ b' : Nat, b' = if Wi.getD (j + v.length) 0 < c + bw then 1 else 0 := ⟨_, rfl⟩
   rw [← hd, ← hb'];obtain ⟨j1, j2, j3, j4, j5, j6⟩ := hT.last hW hd hb'
   (apply Zo;repeat' ((with_reducible first|apply Zk|(first|apply Za|apply Zb|apply Zc|apply Zd)<;>intro h)<;>try simp -implicitDefEqProofs (maxSteps:=9^7) (disch:=first|omega|(simp only [Qb];omega)) only [go_sem, hrw, hset, Jv]))
   refine ⟨_, b', ?_, rfl, j6, j1, j2, j3, j4, j5⟩
   congr 1
   rw [Bool.eq_iff_iff, beq_iff_eq, beq_iff_eq]; omega
 ·exact ⟨0, 0, 0, W, by omega, ⟨rfl, hL, rfl, rfl, by simp [lv], by omega, by omega⟩, rfl, h00.symm, rfl, rfl, rfl, rfl, rfl, rfl, rfl, rfl, rfl⟩
structure Bk (j : Nat) (v : List Nat) (W : List Nat) (i : Nat) (Wi : List Nat) (c : Nat) : Prop where
 len : Wi.length = W.length
 lim : Lim Wi
 lo : Wi.take j = W.take j
 hi : Wi.drop (j + i) = W.drop (j + i)
 eq : lv B32 ((Wi.drop j).take i) + B32 ^ i * c = lv B32 ((W.drop j).take i) + lv B32 (v.take i)
 c : c ≤ 1
theorem Bk.next {j : Nat} {v : List Nat} {W : List Nat} {i : Nat} {Wi : List Nat} {c : Nat} (h : Bk j v W i Wi c) (hi : i < v.length) (hW : j + v.length < W.length) (hV : Lim v) {p : Nat} (hp : p = Wi.getD (j + i) 0 + v.getD i 0 + c) :
  Bk j v W (i + 1) (Wi.set (j + i) (p % 4294967296)) (p / 4294967296) := by
 have hs : j + i < Wi.length := by rw [h.len]; omega
 have hw := h.lim.get (j + i)
 have hv := hV.get i
 have hc := h.c
 have hg := Qhq h.hi
 have hdl : p % 4294967296 < 4294967296 := Nat.mod_lt _ (by decide)
 refine ⟨by rw [List.length_set, h.len], Lim.set h.lim _ hdl, by rw [Qbg (by omega), h.lo], ?_, ?_, by omega⟩
 ·rw [← Nat.add_assoc, Jp (Nat.lt_succ_self _)]
  have := congrArg (List.drop 1) h.hi
  rwa [List.drop_drop, List.drop_drop] at this
 ·rw [Qg5 hs, Ke, Qbl (by omega), Qfv (W := W) (by omega), Ke, Qbl (by omega), Qfg hi, Nat.pow_succ, ← hg]
  have heq := h.eq
  have hpm := Nat.mod_add_div p 4294967296
  generalize B32 ^ i = P at *;rw [Nat.mul_assoc]
  have e2 : P * (p % 4294967296) + P * (B32 * (p / 4294967296)) = P * Wi.getD (j + i) 0 + P * v.getD i 0 + P * c := by
   rw [← Nat.mul_add, ← Nat.mul_add, ← Nat.mul_add]
   congr 1
   simp only [B32];omega
  omega
theorem Bk.last {j : Nat} {v : List Nat} {W Wi : List Nat} {c : Nat} (h : Bk j v W v.length Wi c) (hW : j + v.length < W.length) {p : Nat} (hp : p = Wi.getD (j + v.length) 0 + c) :
  (Wi.set (j + v.length) (p % 4294967296)).length = W.length ∧ Lim (Wi.set (j + v.length) (p % 4294967296)) ∧ (Wi.set (j + v.length) (p % 4294967296)).take j = W.take j ∧ (Wi.set (j + v.length) (p % 4294967296)).drop (j + (v.length + 1)) = W.drop (j + (v.length + 1)) ∧
   lv B32 (((Wi.set (j + v.length) (p % 4294967296)).drop j).take (v.length + 1)) + B32 ^ (v.length + 1) * (p / 4294967296) = lv B32 ((W.drop j).take (v.length + 1)) + lv B32 v := by
 have hs : j + v.length < Wi.length := by rw [h.len]; omega
 have hw := h.lim.get (j + v.length)
 have hc := h.c
 have hg := Qhq h.hi
 have hdl : p % 4294967296 < 4294967296 := Nat.mod_lt _ (by decide)
 refine ⟨by rw [List.length_set, h.len], Lim.set h.lim _ hdl, by rw [Qbg (by omega), h.lo], ?_, ?_⟩
 ·rw [← Nat.add_assoc, Jp (Nat.lt_succ_self _)]
  have := congrArg (List.drop 1) h.hi
  rwa [List.drop_drop, List.drop_drop] at this
 ·rw [Qg5 hs, Ke, Qbl (by omega), Qfv (W := W) (by omega), Ke, Qbl (by omega), Nat.pow_succ, ← hg]
  have heq := h.eq
  rw [List.take_length] at heq
  have hpm := Nat.mod_add_div p 4294967296
  generalize B32 ^ v.length = P at *;rw [Nat.mul_assoc]
  have e2 : P * (p % 4294967296) + P * (B32 * (p / 4294967296)) = P * Wi.getD (j + v.length) 0 + P * c := by
   rw [← Nat.mul_add, ← Nat.mul_add]
   congr 1
   simp only [B32];omega
  omega
theorem Qx7 {ro j : Nat} {H0 : Qa} {v W : List Nat} (hr : Qd H0 ro = some ⟨59, 1, Xa .u32 W⟩) (hW : j + v.length < W.length) (hWl : W.length ≤ 8796093022208) (hL : Lim W) (hV : Lim v) :
  Fc C 174 [.ref ro j (v.length + 1), NA v] H0 fun r H' => ∃ W' c, H' = H0.set ro (some ⟨59, 1, Xa .u32 W'⟩) ∧ W'.length = W.length ∧ Lim W' ∧ W'.take j = W.take j ∧ W'.drop (j + (v.length + 1)) = W.drop (j + (v.length + 1)) ∧ lv B32 ((W'.drop j).take (v.length + 1)) + B32 ^ (v.length + 1) * c = lv B32 ((W.drop j).take (v.length + 1)) + lv B32 v := by
 have hrow : ∀ Wi : List Nat, Qd (H0.set ro (some ⟨59, 1, Xa .u32 Wi⟩)) ro = some ⟨59, 1, Xa .u32 Wi⟩ := fun Wi => Qg hr
 have hset : ∀ (Wi : List Nat) (z : Option Row), (H0.set ro (some ⟨59, 1, Xa .u32 Wi⟩)).set ro z = H0.set ro z := fun Wi z => List.set_set ..
 have h00 : H0.set ro (some ⟨59, 1, Xa .u32 W⟩) = H0 := List.set_getElem_self_of_row hr
 refine Fc.bodyT Qe Tryz.func174 w174 rfl Tryz.ntmps174 Tryz.results174 (zLe rfl) ?_
 (apply Zo;repeat' ((with_reducible first|apply Zk|(first|apply Za|apply Zb|apply Zc|apply Zd)<;>intro h)<;>try simp -implicitDefEqProofs (maxSteps:=9^7) (disch:=first|omega|(simp only [Qb];omega)) only [go_sem]))
 refine Qf (fun n ts H => ∃ (i : Nat) (c : Nat) (Wi : List Nat), (i ≤ v.length) ∧ (Bk j v W i Wi c) ∧ (n = v.length - i) ∧ (H = H0.set ro (some ⟨59, 1, Xa .u32 Wi⟩)) ∧ ts.length = 36 ∧ nth ts 0 = .ref ro j (v.length + 1) ∧ nth ts 1 = NA v ∧ nth ts 4 = .int .u32 (c : Nat) ∧ nth ts 7 = NA v ∧ nth ts 8 = .int .i64 (v.length : Nat) ∧ nth ts 9 = .int .i64 (i : Nat)) ?_ (n := v.length) ?_
 ·skip
  rintro n ts H ⟨i, c, Wi, hi, hT, hn, hH, hL, hs0, hs1, hs4, hs7, hs8, hs9⟩;refine Qv [(0, .ref ro j (v.length + 1)), (1, NA v), (4, .int .u32 (c : Nat)), (7, NA v), (8, .int .i64 (v.length : Nat)), (9, .int .i64 (i : Nat))] hL (by simp only [zFm, hs0, hs1, hs4, hs7, hs8, hs9, true_and]; exact zNm) ?_
  clear hL hs0 hs1 hs4 hs7 hs8 hs9 ts
  refine Qu Qe ?_;subst hH
  have g1 := hV.get i
  have hc := hT.c
  have hlen := hT.len
  have hrw := hrow Wi
  have hwi := hT.lim.get (j + i)
  (apply Zo;repeat' ((with_reducible first|apply Zk|(first|apply Za|apply Zb|apply Zc|apply Zd)<;>intro h)<;>try simp -implicitDefEqProofs (maxSteps:=9^7) (disch:=first|omega|(simp only [Qb];omega)) only [go_sem, hrw, hset]))
  ·refine Fc.pure (Qtx (Wi.getD (j + i) 0) (v.getD i 0) c hwi g1 hc) rfl (fun g => rfl) ?_
   obtain ⟨p, hp⟩ : ∃ p, p = Wi.getD (j + i) 0 + v.getD i 0 + c := ⟨_, rfl⟩;rw [← hp]
   have hN := hT.next (by omega) hW hV hp
   (apply Zo;repeat' ((with_reducible first|apply Zk|(first|apply Za|apply Zb|apply Zc|apply Zd)<;>intro h)<;>try simp -implicitDefEqProofs (maxSteps:=9^7) (disch:=first|omega|(simp only [Qb];omega)) only [go_sem, hrw, hset, Jv]))
   exact ⟨v.length - (i + 1), by omega, i + 1, _, _, by omega, hN, rfl, rfl, rfl, rfl⟩
  ·obtain rfl : i = v.length := by omega
   obtain ⟨p, hp⟩ : ∃ p, p = Wi.getD (j + v.length) 0 + c := ⟨_, rfl⟩
   have hs : ((Wi.getD (j + v.length) 0 : Nat) : Int) + ((c : Nat) : Int) = ((p : Nat) : Int) := by rw [hp]; exact (Int.natCast_add _ _).symm
   obtain ⟨j1, j2, j3, j4, j5⟩ := hT.last hW hp;refine ⟨_, _, ?_, j1, j2, j3, j4, j5⟩;rw [hs, Qjs, Jv]
 ·exact ⟨0, 0, W, by omega, ⟨rfl, hL, rfl, rfl, by simp [lv], by omega⟩, rfl, h00.symm, rfl, rfl, rfl, rfl, rfl, rfl, rfl⟩
def DA (l : List Nat) : V := .sl l.length (Xa .i64 l)
def DV (x : Nat) : V := DA (dg D10 x)
attribute [go_sem] DA DV
theorem Xjf (l : List Nat) : clo (DA l) = true := by simp [DA, clo, Qk]
theorem Yf (x : Nat) : clo (DV x) = true := Xjf _
abbrev OwnD (H : Qa) (v : V) (l : List Nat) : Prop := Bv.Own 3 1 H v l.length (Xa .i64 l)
theorem Own.gd {e s : Nat} {H : Qa} {v : V} {n : Nat} {cs : List V} (h : Bv.Own e s H v n cs) (hc : Qi cs = true) (hp : Xk cs = true) : Gd H v (.sl n cs) := IsZ.gd (.inr h) hc hp
theorem OwnD.gd {H : Qa} {v : V} {l : List Nat} (h : OwnD H v l) : Gd H v (DA l) := Own.gd h (Qk _ _) (Xz _ _)
theorem Qf4 {y : Ty} {e e' s' : Nat} {k : IntKind} {v : V} {H : Qa} {l : List Nat} {x : Nat} {K : V → Qa → Prop} (h : Bv.Own e 1 H v l.length (Xa k l)) (hy : y.size = 1) (hb : 0 < y.bytes ∧ y.bytes ≤ 8) (hl : l.length + 1 ≤ 2000000000000)
  (hK : ∀ v' H', Bv.Own e 1 H' v' (l ++ [x]).length (Xa k (l ++ [x])) → Fr v H H' → K v' H') : Qan y e v (.ref H.length 0 1) (H ++ [some ⟨e', s', [.int k (x : Nat)]⟩]) K :=
 Qu9 h hy ⟨hb.1, by omega⟩ hl rfl (Qdy _ _) fun v' H' h1 h2 => hK v' H' (by rw [Qja, List.length_append]; exact h1) h2
def TrimQ (v : V) (l : List Nat) (u : V) : Prop := (u = .nil ∧ Xx l = 0) ∨ (u = .sl 0 [] ∧ Xx l = 0) ∨ ∃ r, v = .ref r 0 l.length ∧ u = .ref r 0 (Xx l)
theorem TrimQ.gd {H : Qa} {v u : V} {l : List Nat} (hO : OwnD H v l) (h : TrimQ v l u) : Gd H u (DA (l.take (Xx l))) := by
 have e : (l.take (Xx l)).length = Xx l := by rw [List.length_take]; have := Qab l; omega
 have e2 : DA (l.take (Xx l)) = .sl (Xx l) ((Xa .i64 l).take (Xx l)) := by rw [DA, e, Qii]
 rcases h with ⟨rfl, h⟩ | ⟨rfl, h⟩ | ⟨r, rfl, rfl⟩
 ·rw [e2, h]; exact .nil _
 ·rw [e2, h]; exact .leaf _ rfl rfl
 ·rw [e2];rcases hO with ⟨h, _⟩ | ⟨q, h, h2, _⟩
  ·cases h
  ·injection h with h _ _; subst h
   exact .part _ _ _ _ _ _ h2 (Qk _ _) (Xz _ _)
theorem Qca {l : List Nat} (h : ∀ x ∈ l, x < D10) {x : Nat} (hv : lv D10 l = x) : DA (l.take (Xx l)) = DV x := by rw [DV, ← hv, Qjf Qde h]
theorem Qh3 {H0 : Qa} {v : V} {l : List Nat} (hO : OwnD H0 v l) (hl : l.length ≤ 2000000000000) : Fc C 142 [v] H0 fun u H' => H' = H0 ∧ TrimQ v l u := by
 rcases hO with ⟨rfl, h2, h3⟩ | ⟨r, rfl, hr, hlen⟩
 ·have : l = [] := List.length_eq_zero_iff.1 h2
  subst this;refine Fc.bodyT Qe Tryz.func142 w142 rfl Tryz.ntmps142 Tryz.results142 (zLe rfl) ?_
  (apply Zo;repeat' ((with_reducible first|apply Zk|(first|apply Za|apply Zb|apply Zc|apply Zd)<;>intro h)<;>try simp -implicitDefEqProofs (maxSteps:=9^7) (disch:=first|omega|(simp only [Qb];omega)) only [go_sem]))
  refine Qf (fun n ts H => (n = 0) ∧ (H = H0) ∧ ts.length = 21 ∧ nth ts 0 = .nil ∧ nth ts 3 = .int .i64 0) ?_ (n := 0) ?_
  ·skip
   rintro n ts H ⟨hn, hH, hL, hs0, hs3⟩;refine Qv [(0, .nil), (3, .int .i64 0)] hL (by simp only [zFm, hs0, hs3, true_and]; exact zNm) ?_
   clear hL hs0 hs3 ts
   refine Qu Qe ?_;subst hH
   (apply Zo;repeat' ((with_reducible first|apply Zk|(first|apply Za|apply Zb|apply Zc|apply Zd)<;>intro h)<;>try simp -implicitDefEqProofs (maxSteps:=9^7) (disch:=first|omega|(simp only [Qb];omega)) only [go_sem]))
   exact .inl ⟨rfl, rfl⟩
  ·exact ⟨rfl, rfl, rfl, rfl, rfl⟩
 ·skip
  refine Fc.bodyT Qe Tryz.func142 w142 rfl Tryz.ntmps142 Tryz.results142 (zLe rfl) ?_
  (apply Zo;repeat' ((with_reducible first|apply Zk|(first|apply Za|apply Zb|apply Zc|apply Zd)<;>intro h)<;>try simp -implicitDefEqProofs (maxSteps:=9^7) (disch:=first|omega|(simp only [Qb];omega)) only [go_sem, hr]))
  refine Qf (fun n ts H => ∃ (m : Nat), (m ≤ l.length) ∧ (Xx (l.take m) = Xx l) ∧ (n = m) ∧ (H = H0) ∧ ts.length = 21 ∧ nth ts 0 = .ref r 0 l.length ∧ nth ts 3 = .int .i64 (m : Nat)) ?_ (n := l.length) ?_
  ·skip
   rintro n ts H ⟨m, hm, ht, hn, hH, hL, hs0, hs3⟩;refine Qv [(0, .ref r 0 l.length), (3, .int .i64 (m : Nat))] hL (by simp only [zFm, hs0, hs3, true_and]; exact zNm) ?_
   clear hL hs0 hs3 ts
   refine Qu Qe ?_;subst hH
   (apply Zo;repeat' ((with_reducible first|apply Zk|(first|apply Za|apply Zb|apply Zc|apply Zd)<;>intro h)<;>try simp -implicitDefEqProofs (maxSteps:=9^7) (disch:=first|omega|(simp only [Qb];omega)) only [go_sem, hr]))
   ·obtain ⟨m, rfl⟩ : ∃ k, m = k + 1 := ⟨m - 1, by omega⟩
    rw [Kt (by omega)] at ht
    simp only [Nat.add_sub_cancel] at h;rw [if_pos (by omega)] at ht
    exact ⟨m, by omega, m, (by (repeat' apply And.intro) <;> (first | rfl | omega | (congr 1; omega) | assumption | (congr 1; assumption)))⟩
   ·obtain ⟨m, rfl⟩ : ∃ k, m = k + 1 := ⟨m - 1, by omega⟩
    rw [Kt (by omega)] at ht
    simp only [Nat.add_sub_cancel] at h;rw [if_neg (by omega)] at ht
    refine Qe0 (.inr ⟨r, rfl, hr, hlen⟩) (by simp [t3ok]) (by simp [t3size]) hm (fun h0 => by omega) (fun h0 => by omega) fun q h0 hv => ?_
    (apply Zo;repeat' ((with_reducible first|apply Zk|(first|apply Za|apply Zb|apply Zc|apply Zd)<;>intro h)<;>try simp -implicitDefEqProofs (maxSteps:=9^7) (disch:=first|omega|(simp only [Qb];omega)) only [go_sem]))
    exact .inr (.inr ⟨q, hv, by rw [ht]⟩)
   ·obtain rfl : m = 0 := by omega
    refine Qe0 (.inr ⟨r, rfl, hr, hlen⟩) (by simp [t3ok]) (by simp [t3size]) hm (fun h0 hv => nomatch hv) (fun h0 hv => ?_) fun q h0 hv => by omega
    (apply Zo;repeat' ((with_reducible first|apply Zk|(first|apply Za|apply Zb|apply Zc|apply Zd)<;>intro h)<;>try simp -implicitDefEqProofs (maxSteps:=9^7) (disch:=first|omega|(simp only [Qb];omega)) only [go_sem]))
    exact .inr (.inl ⟨rfl, by rw [← ht]; rfl⟩)
  ·exact ⟨l.length, Nat.le_refl _, by rw [List.take_length], rfl, rfl, rfl, rfl, rfl⟩
theorem Qgg (x : Nat) (hx : x < 9223372036854775808) : Val C 108 [.int .i64 (x : Nat)] (DV x) := by
 have hd0 : Qq x ≤ 16 := Qad (Nat.lt_of_lt_of_le hx (by decide))
 refine Fc.keep (Fc.bodyT Qe Tryz.func108 w108 rfl Tryz.ntmps108 Tryz.results108 (zLe rfl) ?_)
 (apply Zo;repeat' ((with_reducible first|apply Zk|(first|apply Za|apply Zb|apply Zc|apply Zd)<;>intro h)<;>try simp -implicitDefEqProofs (maxSteps:=9^7) (disch:=first|omega|(simp only [Qb];omega)) only [go_sem]))
 refine Qf (fun n ts H => ∃ (m : Nat) (l : List Nat) (u : V), (m < 9223372036854775808) ∧ (dg D10 x = l ++ dg D10 m) ∧ (n = m) ∧ (OwnD H u l) ∧ ts.length = 14 ∧ nth ts 0 = .int .i64 (m : Nat) ∧ nth ts 3 = u) ?_ (n := x) ?_
 ·skip
  rintro n ts H ⟨m, l, u, hm, hd, hn, hu, hL, hs0, hs3⟩;refine Qv [(0, .int .i64 (m : Nat)), (3, u)] hL (by simp only [zFm, hs0, hs3, true_and]; exact zNm) ?_
  clear hL hs0 hs3 ts
  refine Qu Qe ?_
  have hlen := congrArg List.length hd
  rw [List.length_append] at hlen
  have hlx : (dg D10 x).length = Qq x := rfl
  have e1 : ((m : Int) % 10000) = ((m % D10 : Nat) : Int) := (Int.natCast_emod _ _).symm
  have e2 : ((m : Int) / 10000) = ((m / D10 : Nat) : Int) := (Int.natCast_ediv _ _).symm
  have e3 : m / D10 ≤ m := Nat.div_le_self _ _
  (apply Zo;repeat' ((with_reducible first|apply Zk|(first|apply Za|apply Zb|apply Zc|apply Zd)<;>intro h)<;>try simp -implicitDefEqProofs (maxSteps:=9^7) (disch:=first|omega|(simp only [Qb];omega)) only [go_sem, e1, e2]))
  ·have hm0 : 0 < m := by omega
   refine Qf4 hu rfl ⟨by decide, by decide⟩ (by omega) fun v' H' hu' _ => ?_
   (apply Zo;repeat' ((with_reducible first|apply Zk|(first|apply Za|apply Zb|apply Zc|apply Zd)<;>intro h)<;>try simp -implicitDefEqProofs (maxSteps:=9^7) (disch:=first|omega|(simp only [Qb];omega)) only [go_sem, e1, e2]))
   have hd' : dg D10 x = (l ++ [m % D10]) ++ dg D10 (m / D10) := by rw [List.append_assoc, hd, Qcv Qde hm0]; rfl
   have hlt : m / D10 < n := by rw [hn]; exact Nat.div_lt_self hm0 (by decide)
   exact ⟨m / D10, hlt, m / D10, l ++ [m % D10], v', (by (repeat' apply And.intro) <;> (first | rfl | omega | (congr 1; omega) | assumption | (congr 1; assumption)))⟩
  ·obtain rfl : m = 0 := by omega
   rw [Xv, List.append_nil] at hd;rw [DV, hd];exact (OwnD.gd hu).ret
 ·exact ⟨x, [], .nil, hx, rfl, rfl, .nil .., rfl, rfl, rfl⟩
theorem Qcx (x y : Nat) (hx : Qq x ≤ 1000000000000) (hy : Qq y ≤ 1000000000000) : Pu C 77 [DV x, DV y] (.int .i64 (Qal x y)) := by
 have lx : (dg D10 x).length = Qq x := rfl
 have ly : (dg D10 y).length = Qq y := rfl
 have hlt : ∀ {a b : Nat}, Qq a < Qq b → a < b := fun h => Nat.lt_of_not_le fun h2 => by have := Jn h2; omega
 refine Fc.keep (Fc.bodyT Qe Tryz.func77 w77 rfl Tryz.ntmps77 Tryz.results77 (zLe rfl) ?_)
 (apply Zo;repeat' ((with_reducible first|apply Zk|(first|apply Za|apply Zb|apply Zc|apply Zd)<;>intro h)<;>try simp -implicitDefEqProofs (maxSteps:=9^7) (disch:=first|omega|(simp only [Qb];omega)) only [go_sem]))
 ·have := hlt (a := x) (b := y) (by omega)
  (refine Qo (by intro g; simp only [go_sem, ren, Ql]) ?_)
  simp [Qal, this]
 ·have := hlt (a := y) (b := x) (by omega)
  (refine Qo (by intro g; simp only [go_sem, ren, Ql]) ?_)
  simp [Qal, this, Nat.not_lt.2 (Nat.le_of_lt this)]
 ·have hxy : Qq x = Qq y := by omega
  refine Qf (fun n ts H => ∃ (i : Nat), (i ≤ Qq x) ∧ (x / D10 ^ i = y / D10 ^ i) ∧ (n = i) ∧ (H = []) ∧ ts.length = 41 ∧ nth ts 0 = DV x ∧ nth ts 1 = DV y ∧ nth ts 5 = .int .i64 ((i : Int) - 1)) ?_ (n := Qq x) ?_
  ·skip
   rintro n ts H ⟨i, hi, hI, hn, hH, hL, hs0, hs1, hs5⟩;refine Qv [(0, DV x), (1, DV y), (5, .int .i64 ((i : Int) - 1))] hL (by simp only [zFm, hs0, hs1, hs5, true_and]; exact zNm) ?_
   clear hL hs0 hs1 hs5 ts
   refine Qu Qe ?_;subst hH
   (apply Zo;repeat' ((with_reducible first|apply Zk|(first|apply Za|apply Zb|apply Zc|apply Zd)<;>intro h)<;>try simp -implicitDefEqProofs (maxSteps:=9^7) (disch:=first|omega|(simp only [Qb];omega)) only [go_sem]))
   all_goals first
    | (obtain ⟨j, rfl⟩ : ∃ j, i = j + 1 := ⟨i - 1, by omega⟩
       simp only [Nat.add_sub_cancel, Qgq Qde] at *
       have sx := Qjy x j
       have sy := Qjy y j
       rw [hI] at sx)
    | skip
   ·have : x < y := Nat.lt_of_not_le fun hle => by
     have := Nat.div_le_div_right (c := D10 ^ j) hle
     omega
    (refine Qo (by intro g; simp only [go_sem, ren, Ql]) ?_)
    simp [Qal, this]
   ·have : y < x := Nat.lt_of_not_le fun hle => by
     have := Nat.div_le_div_right (c := D10 ^ j) hle
     omega
    (refine Qo (by intro g; simp only [go_sem, ren, Ql]) ?_)
    simp [Qal, this, Nat.not_lt.2 (Nat.le_of_lt this)]
   ·have hI' : x / D10 ^ j = y / D10 ^ j := by omega
    exact ⟨j, by omega, j, (by (repeat' apply And.intro) <;> (first | rfl | omega | (congr 1; omega) | assumption | (congr 1; assumption)))⟩
   ·obtain rfl : i = 0 := by omega
    simp only [Nat.pow_zero, Nat.div_one] at hI
    (refine Qo (by intro g; simp only [go_sem, ren, Ql]) ?_)
    rw [hI]; simp [Qal]
  ·exact ⟨Qq x, Nat.le_refl _, by rw [Nat.div_eq_of_lt (Qaw x), Nat.div_eq_of_lt (Qak (by omega))], rfl, rfl, rfl, rfl, rfl, rfl⟩
theorem Qb9 (x i : Nat) (hx : Qq x ≤ 1000000000000) (hi : i ≤ 2000000000000) : Pu C 126 [DV x, .int .i64 (i : Nat)] (.int .i64 (x / D10 ^ i % D10 : Nat)) := by
 have lx : (dg D10 x).length = Qq x := rfl
 refine Fc.keep (Fc.bodyT Qe Tryz.func126 w126 rfl Tryz.ntmps126 Tryz.results126 (zLe rfl) ?_)
 (apply Zo;repeat' ((with_reducible first|apply Zk|(first|apply Za|apply Zb|apply Zc|apply Zd)<;>intro h)<;>try simp -implicitDefEqProofs (maxSteps:=9^7) (disch:=first|omega|(simp only [Qb];omega)) only [go_sem]))
 ·skip
  (refine Qo (by intro g; simp only [go_sem, ren, Ql]) ?_)
  rw [Qgq Qde]
 ·skip
  (refine Qo (by intro g; simp only [go_sem, ren, Ql]) ?_)
  rw [Nat.div_eq_of_lt (Qak (by omega))]; rfl
theorem Qli (x y : Nat) (hx : Qq x ≤ 1000000000000) (hy : Qq y ≤ 1000000000000) : Val C 107 [DV x, DV y] (DV (x + y)) := by
 have lx : (dg D10 x).length = Qq x := rfl
 have ly : (dg D10 y).length = Qq y := rfl
 refine Fc.keep (Fc.bodyT Qe Tryz.func107 w107 rfl Tryz.ntmps107 Tryz.results107 (zLe rfl) ?_)
 (apply Zo;repeat' ((with_reducible first|apply Zk|(first|apply Za|apply Zb|apply Zc|apply Zd)<;>intro h)<;>try simp -implicitDefEqProofs (maxSteps:=9^7) (disch:=first|omega|(simp only [Qb];omega)) only [go_sem]))
 refine Qf (fun n ts H => ∃ (l : List Nat) (c : Nat) (u : V), (l.length ≤ 1000000000001) ∧ (c ≤ 1) ∧ (lv D10 l + D10 ^ l.length * c = x % D10 ^ l.length + y % D10 ^ l.length) ∧ ((∀ d ∈ l, d < D10)) ∧ ((∀ k, l.length = k + 1 → D10 ^ k ≤ x + y)) ∧ (l.length ≤ max (Qq x) (Qq y) ∨ c = 0) ∧ (l.length ≤ max (Qq x) (Qq y) + 1) ∧ (n = max (Qq x) (Qq y) + 1 - l.length) ∧ (OwnD H u l) ∧ ts.length = 42 ∧ nth ts 0 = DV x ∧ nth ts 1 = DV y ∧ nth ts 5 = u ∧ nth ts 6 = .int .i64 (c : Nat) ∧ nth ts 7 = .int .i64 (l.length : Nat)) ?_ (n := max (Qq x) (Qq y) + 1) ?_
 ·skip
  rintro n ts H ⟨l, c, u, hi, hc, hI, hdl, ht, hi2, hi3, hn, hu, hL, hs0, hs1, hs5, hs6, hs7⟩;refine Qv [(0, DV x), (1, DV y), (5, u), (6, .int .i64 (c : Nat)), (7, .int .i64 (l.length : Nat))] hL (by simp only [zFm, hs0, hs1, hs5, hs6, hs7, true_and]; exact zNm) ?_
  clear hL hs0 hs1 hs5 hs6 hs7 ts
  refine Qu Qe ?_
  have step : (l.length < Qq x ∨ l.length < Qq y ∨ 0 < c) → ∀ Q : Prop, (∀ d : Nat, d = x / D10 ^ l.length % D10 + y / D10 ^ l.length % D10 + c → d / D10 ≤ 1 → lv D10 (l ++ [d % D10]) + D10 ^ (l.length + 1) * (d / D10) = x % D10 ^ (l.length + 1) + y % D10 ^ (l.length + 1) → D10 ^ l.length ≤ x + y → Q) → Q := fun hcase Q hQ => by
   refine hQ _ rfl ?_ ?_ ?_
   ·have h1 := Nat.mod_lt (x / D10 ^ l.length) (show 0 < D10 by decide)
    have h2 := Nat.mod_lt (y / D10 ^ l.length) (show 0 < D10 by decide)
    simp only [D10] at *;omega
   ·have := Xgk (d := x / D10 ^ l.length % D10 + y / D10 ^ l.length % D10 + c) hI
    rw [Qfc x, Qfc y];simp only [Nat.mul_add] at this;omega
   ·rcases hcase with h | h | h
    ·have := Quy h; omega
    ·have := Quy h; omega
    ·have h1 := mod_le x l.length
     have h2 := mod_le y l.length
     have h3 := Nat.mul_le_mul_left (D10 ^ l.length) (show 1 ≤ c from h)
     omega
  by_cases hcase : l.length < Qq x ∨ l.length < Qq y ∨ 0 < c
  ·refine step hcase _ fun d hd h1 h2 h3 => ?_
   have a1 := Nat.mod_lt (x / D10 ^ l.length) (show 0 < D10 by decide)
   have a2 := Nat.mod_lt (y / D10 ^ l.length) (show 0 < D10 by decide)
   have hdle : d ≤ 20000 := by simp only [D10] at *; omega
   have e0 : ((x / D10 ^ l.length % D10 : Nat) : Int) + ((y / D10 ^ l.length % D10 : Nat) : Int) + (c : Int) = (d : Int) := by omega
   have q0 : l.length + 1 ≤ max (Qq x) (Qq y) ∨ d / D10 = 0 := by
    by_cases hm : l.length + 1 ≤ max (Qq x) (Qq y)
    ·exact .inl hm
    ·right;rw [Nat.div_eq_of_lt (Qak (show Qq x ≤ l.length by omega)), Nat.div_eq_of_lt (Qak (show Qq y ≤ l.length by omega))] at hd
     simp only [D10] at *;omega
   have hs1 := Qb9 x l.length hx (by omega)
   have hs2 := Qb9 y l.length hy (by omega)
   generalize x / D10 ^ l.length % D10 = dx at *;generalize y / D10 ^ l.length % D10 = dy at *
   have e1 : ((d : Int) % 10000) = ((d % D10 : Nat) : Int) := (Int.natCast_emod _ _).symm
   have e2 : ((d : Int) / 10000) = ((d / D10 : Nat) : Int) := (Int.natCast_ediv _ _).symm
   have hdx : dx ≤ 10000 := by rw [D10] at a1; omega
   have hdy : dy ≤ 10000 := by rw [D10] at a2; omega
   have hgo : l.length < Qq x ∨ (¬ l.length < Qq x ∧ l.length < Qq y) ∨ (¬ l.length < Qq x ∧ ¬ l.length < Qq y ∧ 0 < c) := by omega
   have q1 : (l ++ [d % D10]).length = l.length + 1 := by simp
   have q0' : (l ++ [d % D10]).length ≤ max (Qq x) (Qq y) ∨ d / D10 = 0 := by rw [q1]; exact q0
   have q2 : lv D10 (l ++ [d % D10]) + D10 ^ (l ++ [d % D10]).length * (d / D10) = x % D10 ^ (l ++ [d % D10]).length + y % D10 ^ (l ++ [d % D10]).length := by rw [q1]; exact h2
   have q3 := Qiu hdl (Nat.mod_lt d (show 0 < D10 by decide))
   have q4 : ∀ k, (l ++ [d % D10]).length = k + 1 → D10 ^ k ≤ x + y := fun k hk => by
    rw [q1] at hk;obtain rfl : l.length = k := by omega
    exact h3
   rcases hgo with h | ⟨h, h'⟩ | ⟨h, h', h''⟩
   all_goals
    (apply Zo;repeat' ((with_reducible first|apply Zk|(first|apply Za|apply Zb|apply Zc|apply Zd)<;>intro h)<;>try simp -implicitDefEqProofs (maxSteps:=9^7) (disch:=first|omega|(simp only [Qb];omega)) only [go_sem]))
    refine Fc.pure hs1 (by simp [Qi, clo, Qk, DA, DV]) (fun g => rfl) ?_
    (apply Zo;repeat' ((with_reducible first|apply Zk|(first|apply Za|apply Zb|apply Zc|apply Zd)<;>intro h)<;>try simp -implicitDefEqProofs (maxSteps:=9^7) (disch:=first|omega|(simp only [Qb];omega)) only [go_sem]))
    refine Fc.pure hs2 (by simp [Qi, clo, Qk, DA, DV]) (fun g => rfl) ?_
    (apply Zo;repeat' ((with_reducible first|apply Zk|(first|apply Za|apply Zb|apply Zc|apply Zd)<;>intro h)<;>try simp -implicitDefEqProofs (maxSteps:=9^7) (disch:=first|omega|(simp only [Qb];omega)) only [go_sem, e0, e1, e2]))
    refine Qf4 hu rfl ⟨by decide, by decide⟩ (by omega) fun v' H' hu' _ => ?_
    (apply Zo;repeat' ((with_reducible first|apply Zk|(first|apply Za|apply Zb|apply Zc|apply Zd)<;>intro h)<;>try simp -implicitDefEqProofs (maxSteps:=9^7) (disch:=first|omega|(simp only [Qb];omega)) only [go_sem, e0, e1, e2]))
    exact ⟨max (Qq x) (Qq y) + 1 - (l.length + 1), by omega, l ++ [d % D10], d / D10, v', (by (repeat' apply And.intro) <;> (first | rfl | omega | (congr 1; omega) | assumption | (congr 1; assumption)))⟩
  ·have hc0 : c = 0 := by omega
   subst hc0
   (apply Zo;repeat' ((with_reducible first|apply Zk|(first|apply Za|apply Zb|apply Zc|apply Zd)<;>intro h)<;>try simp -implicitDefEqProofs (maxSteps:=9^7) (disch:=first|omega|(simp only [Qb];omega)) only [go_sem]))
   rw [Qfd (show Qq x ≤ l.length by omega), Qfd (show Qq y ≤ l.length by omega), Nat.mul_zero, Nat.add_zero] at hI
   rw [DV, ← Xfs hdl hI ht];exact (OwnD.gd hu).ret
 ·exact ⟨[], 0, .nil, by simp, by omega, by simp [lv, Nat.mod_one], fun d hd => (nomatch hd), fun k hk => (nomatch hk), by simp, by simp, by simp, .nil .., rfl, rfl, rfl, rfl, rfl, rfl⟩
end Go.Proofs.YtjdbdmhjakfldaaGreat
end
section
namespace Go.Proofs.YtjdbdmhjakfldaaGreat
open Go.Bv
theorem Qxf {i z : Nat} (h : D10 ^ i ≤ z) : i < Qq z := Nat.lt_of_not_le fun hle => by
 have := Qak hle
 omega
theorem Qrp (x y : Nat) (hx : Qq x ≤ 1000000000000) (hyx : y ≤ x) : Val C 141 [DV x, DV y] (.tup [DV (x - y), .bool true]) := by
 have lx : (dg D10 x).length = Qq x := rfl
 have ly : Qq y ≤ Qq x := Jn hyx
 have hc : ¬ Qal x y < 0 := by unfold Qal; split <;> (try split) <;> omega
 refine Fc.keep (Fc.bodyT Qe Tryz.func141 w141 rfl Tryz.ntmps141 Tryz.results141 (zLe rfl) ?_)
 (apply Zo;repeat' ((with_reducible first|apply Zk|(first|apply Za|apply Zb|apply Zc|apply Zd)<;>intro h)<;>try simp -implicitDefEqProofs (maxSteps:=9^7) (disch:=first|omega|(simp only [Qb];omega)) only [go_sem]))
 refine Fc.pure (Qcx x y hx (by omega)) (by simp [Qi, clo, Qk]) (fun g => rfl) ?_
 (apply Zo;repeat' ((with_reducible first|apply Zk|(first|apply Za|apply Zb|apply Zc|apply Zd)<;>intro h)<;>try simp -implicitDefEqProofs (maxSteps:=9^7) (disch:=first|omega|(simp only [Qb];omega)) only [go_sem]))
 refine Qf (fun n ts H => ∃ (l : List Nat) (b : Nat) (u : V), (l.length ≤ Qq x) ∧ (b ≤ 1) ∧ (lv D10 l + y % D10 ^ l.length = x % D10 ^ l.length + D10 ^ l.length * b) ∧ ((∀ d ∈ l, d < D10)) ∧ (n = Qq x - l.length) ∧ (OwnD H u l) ∧ ts.length = 40 ∧ nth ts 0 = DV x ∧ nth ts 1 = DV y ∧ nth ts 6 = u ∧ nth ts 7 = .int .i64 (b : Nat) ∧ nth ts 8 = .int .i64 (l.length : Nat)) ?_ (n := Qq x) ?_
 ·skip
  rintro n ts H ⟨l, b, u, hi, hb, hI, hdl, hn, hu, hL, hs0, hs1, hs6, hs7, hs8⟩;refine Qv [(0, DV x), (1, DV y), (6, u), (7, .int .i64 (b : Nat)), (8, .int .i64 (l.length : Nat))] hL (by simp only [zFm, hs0, hs1, hs6, hs7, hs8, true_and]; exact zNm) ?_
  clear hL hs0 hs1 hs6 hs7 hs8 ts
  refine Qu Qe ?_;by_cases hcase : l.length < Qq x
  ·have a1 := Nat.mod_lt (x / D10 ^ l.length) (show 0 < D10 by decide)
   have a2 := Nat.mod_lt (y / D10 ^ l.length) (show 0 < D10 by decide)
   have sx := Qfc x l.length
   have sy := Qfc y l.length
   have hs := Qb9 y l.length (by omega) (by omega)
   have hgx := Qgq Qde x l.length
   obtain ⟨dx, hdx⟩ : ∃ d, d = x / D10 ^ l.length % D10 := ⟨_, rfl⟩;obtain ⟨dy, hdy⟩ : ∃ d, d = y / D10 ^ l.length % D10 := ⟨_, rfl⟩;rw [← hdx] at a1 sx hgx;rw [← hdy] at a2 sy hs
   have b1 : dx < 10000 := a1
   have b2 : dy < 10000 := a2
   (apply Zo;repeat' ((with_reducible first|apply Zk|(first|apply Za|apply Zb|apply Zc|apply Zd)<;>intro h)<;>try simp -implicitDefEqProofs (maxSteps:=9^7) (disch:=first|omega|(simp only [Qb];omega)) only [go_sem, hgx]))
   refine Pc.pure hs (by simp [Qi, clo, Qk]) (fun g => rfl) ?_
   (apply Zo;repeat' ((with_reducible first|apply Zk|(first|apply Za|apply Zb|apply Zc|apply Zd)<;>intro h)<;>try simp -implicitDefEqProofs (maxSteps:=9^7) (disch:=first|omega|(simp only [Qb];omega)) only [go_sem, hgx]))
   all_goals
    obtain ⟨e, he⟩ : ∃ e : Nat, e = (dx + 10000 - dy - b) % 10000 := ⟨_, rfl⟩;obtain ⟨b', hb'⟩ : ∃ b' : Nat, b' = if dx < dy + b then 1 else 0 := ⟨_, rfl⟩
    have q1 : (l ++ [e]).length = l.length + 1 := by simp
    have q3 : ∀ d ∈ l ++ [e], d < D10 := Qiu hdl (by rw [he]; exact Nat.mod_lt _ (by decide))
    have q4 : b' ≤ 1 := by rw [hb']; split <;> omega
    have q2 : lv D10 (l ++ [e]) + y % D10 ^ (l ++ [e]).length = x % D10 ^ (l ++ [e]).length + D10 ^ (l ++ [e]).length * b' := by
     rw [q1, Ke, sx, sy, Nat.pow_succ, Nat.mul_assoc]
     have e1 : e + dy + b = dx + D10 * b' := by rw [he, hb', D10]; split <;> omega
     have e2 : D10 ^ l.length * e + D10 ^ l.length * dy + D10 ^ l.length * b = D10 ^ l.length * dx + D10 ^ l.length * (D10 * b') := by
      rw [← Nat.mul_add, ← Nat.mul_add, ← Nat.mul_add, e1]
     omega
   ·have ee : ((dx : Int) - (dy : Int) - (b : Int) + 10000) = (e : Int) := by rw [he]; omega
    have eb : b' = 1 := by rw [hb', if_pos (by omega)]
    (apply Zo;repeat' ((with_reducible first|apply Zk|(first|apply Za|apply Zb|apply Zc|apply Zd)<;>intro h)<;>try simp -implicitDefEqProofs (maxSteps:=9^7) (disch:=first|omega|(simp only [Qb];omega)) only [go_sem, ee]))
    refine Qf4 hu rfl ⟨by decide, by decide⟩ (by omega) fun v' H' hu' _ => ?_
    (apply Zo;repeat' ((with_reducible first|apply Zk|(first|apply Za|apply Zb|apply Zc|apply Zd)<;>intro h)<;>try simp -implicitDefEqProofs (maxSteps:=9^7) (disch:=first|omega|(simp only [Qb];omega)) only [go_sem]))
    exact ⟨Qq x - (l.length + 1), by omega, l ++ [e], b', v', (by (repeat' apply And.intro) <;> (first | rfl | omega | (congr 1; omega) | assumption | (congr 1; assumption)))⟩
   ·have ee : ((dx : Int) - (dy : Int) - (b : Int)) = (e : Int) := by rw [he]; omega
    have eb : b' = 0 := by rw [hb', if_neg (by omega)]
    (apply Zo;repeat' ((with_reducible first|apply Zk|(first|apply Za|apply Zb|apply Zc|apply Zd)<;>intro h)<;>try simp -implicitDefEqProofs (maxSteps:=9^7) (disch:=first|omega|(simp only [Qb];omega)) only [go_sem, ee]))
    refine Qf4 hu rfl ⟨by decide, by decide⟩ (by omega) fun v' H' hu' _ => ?_
    (apply Zo;repeat' ((with_reducible first|apply Zk|(first|apply Za|apply Zb|apply Zc|apply Zd)<;>intro h)<;>try simp -implicitDefEqProofs (maxSteps:=9^7) (disch:=first|omega|(simp only [Qb];omega)) only [go_sem]))
    exact ⟨Qq x - (l.length + 1), by omega, l ++ [e], b', v', (by (repeat' apply And.intro) <;> (first | rfl | omega | (congr 1; omega) | assumption | (congr 1; assumption)))⟩
  ·skip
   (apply Zo;repeat' ((with_reducible first|apply Zk|(first|apply Za|apply Zb|apply Zc|apply Zd)<;>intro h)<;>try simp -implicitDefEqProofs (maxSteps:=9^7) (disch:=first|omega|(simp only [Qb];omega)) only [go_sem]))
   rw [Qfd (show Qq x ≤ l.length by omega), Qfd (show Qq y ≤ l.length by omega)] at hI
   have hlt := Qfh hdl
   have hv : lv D10 l = x - y := by
    have : b = 0 := by
     rcases Nat.eq_zero_or_pos b with h | h
     ·exact h
     ·have := Nat.mul_le_mul_left (D10 ^ l.length) h
      omega
    subst this;rw [Nat.mul_zero] at hI;omega
   refine (Qh3 hu (by omega)).mono ?_
   rintro u' H' ⟨rfl, hq⟩
   (apply Zo;repeat' ((with_reducible first|apply Zk|(first|apply Za|apply Zb|apply Zc|apply Zd)<;>intro h)<;>try simp -implicitDefEqProofs (maxSteps:=9^7) (disch:=first|omega|(simp only [Qb];omega)) only [go_sem]))
   refine Gd.ret (Gd.tupL ⟨?_, .leaf _ rfl rfl, trivial⟩);rw [← Qca hdl hv];exact hq.gd hu
 ·exact ⟨[], 0, .nil, by simp, by omega, by simp [lv, Nat.mod_one], fun d hd => (nomatch hd), by simp, .nil .., rfl, rfl, rfl, rfl, rfl, rfl⟩
theorem Qb5 (x d : Nat) (hx : Qq x ≤ 1000000000000) (hd : d ≤ 4294967296) : Val C 121 [DV x, .int .i64 (d : Nat)] (DV (x * d)) := by
 have lx : (dg D10 x).length = Qq x := rfl
 have hld : Qq d ≤ 8 := Qad (Nat.lt_of_le_of_lt hd (by decide))
 have hlm := Qfn x d
 refine Fc.keep (Fc.bodyT Qe Tryz.func121 w121 rfl Tryz.ntmps121 Tryz.results121 (zLe rfl) ?_)
 (apply Zo;repeat' ((with_reducible first|apply Zk|(first|apply Za|apply Zb|apply Zc|apply Zd)<;>intro h)<;>try simp -implicitDefEqProofs (maxSteps:=9^7) (disch:=first|omega|(simp only [Qb];omega)) only [go_sem]))
 refine Qf (fun n ts H => ∃ (l : List Nat) (c : Nat) (u : V), (l.length ≤ Qq x + 20) ∧ (c ≤ d) ∧ (lv D10 l + D10 ^ l.length * c = (x % D10 ^ l.length) * d) ∧ ((∀ d ∈ l, d < D10)) ∧ (n = Qq x + 20 - l.length) ∧ (OwnD H u l) ∧ ts.length = 35 ∧ nth ts 0 = DV x ∧ nth ts 1 = .int .i64 (d : Nat) ∧ nth ts 5 = u ∧ nth ts 6 = .int .i64 (c : Nat) ∧ nth ts 7 = .int .i64 (l.length : Nat)) ?_ (n := Qq x + 20) ?_
 ·skip
  rintro n ts H ⟨l, c, u, hi, hc, hI, hdl, hn, hu, hL, hs0, hs1, hs5, hs6, hs7⟩;refine Qv [(0, DV x), (1, .int .i64 (d : Nat)), (5, u), (6, .int .i64 (c : Nat)), (7, .int .i64 (l.length : Nat))] hL (by simp only [zFm, hs0, hs1, hs5, hs6, hs7, true_and]; exact zNm) ?_
  clear hL hs0 hs1 hs5 hs6 hs7 ts
  refine Qu Qe ?_;by_cases hcase : l.length < Qq x ∨ 0 < c
  ·have hli : l.length < Qq x + 8 := by
    rcases hcase with h | h
    ·omega
    ·have h1 := Nat.mul_le_mul_right d (mod_le x l.length)
     have h3 := Nat.mul_le_mul_left (D10 ^ l.length) (show 1 ≤ c from h)
     have := Qxf (i := l.length) (z := x * d) (by omega)
     omega
   have a1 := Nat.mod_lt (x / D10 ^ l.length) (show 0 < D10 by decide)
   have sx := Qfc x l.length
   have hs := Qb9 x l.length hx (by omega)
   have hz : ¬ l.length < Qq x → x / D10 ^ l.length % D10 = 0 := fun h => by rw [Nat.div_eq_of_lt (Qak (by omega))]; rfl
   obtain ⟨dx, hdx⟩ : ∃ d, d = x / D10 ^ l.length % D10 := ⟨_, rfl⟩;rw [← hdx] at a1 sx hs hz
   have b1 : dx < 10000 := a1
   obtain ⟨z, hzz⟩ : ∃ z, z = dx * d + c := ⟨_, rfl⟩
   have hm : dx * d ≤ 9999 * d := Nat.mul_le_mul_right d (by omega)
   have e0 : ((dx : Int) * (d : Int)) = ((dx * d : Nat) : Int) := (Int.natCast_mul _ _).symm
   have e3 : ((dx * d : Nat) : Int) + (c : Int) = (z : Int) := by rw [hzz]; exact (Int.natCast_add _ _).symm
   have e1 : ((z : Int) % 10000) = ((z % D10 : Nat) : Int) := (Int.natCast_emod _ _).symm
   have e2 : ((z : Int) / 10000) = ((z / D10 : Nat) : Int) := (Int.natCast_ediv _ _).symm
   have hzl : z ≤ 10000 * d := by omega
   have q0 : z / D10 ≤ d := by rw [D10]; omega
   have hI2 : lv D10 (l ++ [z % D10]) + D10 ^ (l.length + 1) * (z / D10) = (x % D10 ^ (l.length + 1)) * d := by
    have := Xgk (d := z) hI
    rw [sx, Nat.add_mul]
    have e4 : D10 ^ l.length * z = D10 ^ l.length * dx * d + D10 ^ l.length * c := by rw [hzz, Nat.mul_add, Nat.mul_assoc]
    omega
   generalize dx * d = dxd at *
   have q1 : (l ++ [z % D10]).length = l.length + 1 := by simp
   have q3 : ∀ e ∈ l ++ [z % D10], e < D10 := Qiu hdl (Nat.mod_lt _ (by decide))
   have q2 : lv D10 (l ++ [z % D10]) + D10 ^ (l ++ [z % D10]).length * (z / D10) = (x % D10 ^ (l ++ [z % D10]).length) * d := by rw [q1]; exact hI2
   have hgo : l.length < Qq x ∨ (¬ l.length < Qq x ∧ 0 < c) := by omega
   rcases hgo with h | ⟨h, h'⟩
   all_goals
    (apply Zo;repeat' ((with_reducible first|apply Zk|(first|apply Za|apply Zb|apply Zc|apply Zd)<;>intro h)<;>try simp -implicitDefEqProofs (maxSteps:=9^7) (disch:=first|omega|(simp only [Qb];omega)) only [go_sem]))
    refine Fc.pure hs (by simp [Qi, clo, Qk]) (fun g => rfl) ?_
    (apply Zo;repeat' ((with_reducible first|apply Zk|(first|apply Za|apply Zb|apply Zc|apply Zd)<;>intro h)<;>try simp -implicitDefEqProofs (maxSteps:=9^7) (disch:=first|omega|(simp only [Qb];omega)) only [go_sem, e0, e1, e2, e3]))
    refine Qf4 hu rfl ⟨by decide, by decide⟩ (by omega) fun v' H' hu' _ => ?_
    (apply Zo;repeat' ((with_reducible first|apply Zk|(first|apply Za|apply Zb|apply Zc|apply Zd)<;>intro h)<;>try simp -implicitDefEqProofs (maxSteps:=9^7) (disch:=first|omega|(simp only [Qb];omega)) only [go_sem, e1, e2, e3]))
    exact ⟨Qq x + 20 - (l.length + 1), by omega, l ++ [z % D10], z / D10, v', (by (repeat' apply And.intro) <;> (first | rfl | omega | (congr 1; omega) | assumption | (congr 1; assumption)))⟩
  ·have hc0 : c = 0 := by omega
   subst hc0
   (apply Zo;repeat' ((with_reducible first|apply Zk|(first|apply Za|apply Zb|apply Zc|apply Zd)<;>intro h)<;>try simp -implicitDefEqProofs (maxSteps:=9^7) (disch:=first|omega|(simp only [Qb];omega)) only [go_sem]))
   rw [Qfd (show Qq x ≤ l.length by omega), Nat.mul_zero, Nat.add_zero] at hI
   refine (Qh3 hu (by omega)).mono ?_
   rintro u' H' ⟨rfl, hq⟩
   (apply Zo;repeat' ((with_reducible first|apply Zk|(first|apply Za|apply Zb|apply Zc|apply Zd)<;>intro h)<;>try simp -implicitDefEqProofs (maxSteps:=9^7) (disch:=first|omega|(simp only [Qb];omega)) only [go_sem]))
   refine Gd.ret ?_;rw [← Qca hdl hI];exact hq.gd hu
 ·exact ⟨[], 0, .nil, by simp, by omega, by simp [lv, Nat.mod_one], fun d hd => (nomatch hd), by simp, .nil .., rfl, rfl, rfl, rfl, rfl, rfl⟩
theorem Qg4 (x d : Nat) (hx : Qq x ≤ 1000000000000) (hd : d ≤ 4294967296) (hd0 : 0 < d) : Val C 155 [DV x, .int .i64 (d : Nat)] (.tup [DV (x / d), .int .i64 (x % d : Nat)]) := by
 have lx : (dg D10 x).length = Qq x := rfl
 refine Fc.keep (Fc.bodyT Qe Tryz.func155 w155 rfl Tryz.ntmps155 Tryz.results155 (zLe rfl) ?_)
 (apply Zo;repeat' ((with_reducible first|apply Zk|(first|apply Za|apply Zb|apply Zc|apply Zd)<;>intro h)<;>try simp -implicitDefEqProofs (maxSteps:=9^7) (disch:=first|omega|(simp only [Qb];omega)) only [go_sem]))
 refine Qb8 rfl rfl rfl rfl (by simp [t3bytes]) (by omega) ?_
 (apply Zo;repeat' ((with_reducible first|apply Zk|(first|apply Za|apply Zb|apply Zc|apply Zd)<;>intro h)<;>try simp -implicitDefEqProofs (maxSteps:=9^7) (disch:=first|omega|(simp only [Qb];omega)) only [go_sem]))
 refine Qf (fun n ts H => ∃ (m : Nat) (r : Nat) (Q : List Nat), (m ≤ Qq x) ∧ (Q.length = Qq x) ∧ ((∀ e ∈ Q, e < D10)) ∧ (r < d) ∧ (lv D10 (Q.drop m) * d + r = x / D10 ^ m) ∧ (n = m) ∧ (H = [some ⟨3, 1, Xa .i64 Q⟩]) ∧ ts.length = 39 ∧ nth ts 0 = DV x ∧ nth ts 1 = .int .i64 (d : Nat) ∧ nth ts 6 = .ref 0 0 (Qq x) ∧ nth ts 7 = .int .i64 (r : Nat) ∧ nth ts 8 = .int .i64 ((m : Int) - 1)) ?_ (n := Qq x) ?_
 ·skip
  rintro n ts H ⟨m, r, Q, hm, hQl, hQ, hr, hinv, hn, hH, hL, hs0, hs1, hs6, hs7, hs8⟩;refine Qv [(0, DV x), (1, .int .i64 (d : Nat)), (6, .ref 0 0 (Qq x)), (7, .int .i64 (r : Nat)), (8, .int .i64 ((m : Int) - 1))] hL (by simp only [zFm, hs0, hs1, hs6, hs7, hs8, true_and]; exact zNm) ?_
  clear hL hs0 hs1 hs6 hs7 hs8 ts
  refine Qu Qe ?_;subst hH;by_cases hcase : 0 < m
  ·obtain ⟨k, rfl⟩ : ∃ k, m = k + 1 := ⟨m - 1, by omega⟩
   have sx := Qjy x k
   have a1 := Nat.mod_lt (x / D10 ^ k) (show 0 < D10 by decide)
   have hgx := Qgq Qde x k
   obtain ⟨dx, hdx⟩ : ∃ e, e = x / D10 ^ k % D10 := ⟨_, rfl⟩;rw [← hdx] at a1 sx hgx
   have b1 : dx < 10000 := a1
   obtain ⟨z, hz⟩ : ∃ z, z = r * 10000 + dx := ⟨_, rfl⟩
   have e0 : ((r : Int) * 10000 + (dx : Int)) = (z : Int) := by rw [hz]; omega
   have e1 : ((z : Int) / (d : Int)) = ((z / d : Nat) : Int) := (Int.natCast_ediv _ _).symm
   have e2 : ((z : Int) % (d : Int)) = ((z % d : Nat) : Int) := (Int.natCast_emod _ _).symm
   have hq : z / d < 10000 := by
    rw [Nat.div_lt_iff_lt_mul hd0, hz]
    have := Nat.mul_le_mul_right 10000 (show r + 1 ≤ d from hr)
    rw [Nat.add_mul] at this;omega
   have hs := Nat.mod_lt z hd0
   have hdm := Nat.div_add_mod z d
   have hkk : ((k + 1 : Nat) : Int) - 1 = (k : Int) := by omega
   have q1 : (Q.set k (z / d)).length = Qq x := by rw [List.length_set]; exact hQl
   have q2 : ∀ e ∈ Q.set k (z / d), e < D10 := fun e he => by
    rcases List.mem_or_eq_of_mem_set he with h1 | h1
    ·exact hQ e h1
    ·rw [h1]; exact hq
   have q3 : lv D10 ((Q.set k (z / d)).drop k) * d + z % d = x / D10 ^ k := by
    rw [Qbe (l := Q.set _ _) (by rw [List.length_set]; omega), Qdk (by omega), Jp (by omega), sx, ← hinv]
    generalize lv D10 (Q.drop (k + 1)) = w at *;generalize z / d = q at *;generalize z % d = s at *;rw [Nat.add_mul, Nat.mul_comm q d]
    have : D10 * (w * d + r) = D10 * w * d + D10 * r := by rw [Nat.mul_add, Nat.mul_assoc]
    rw [this]
    have : D10 * r = r * 10000 := Nat.mul_comm _ _
    omega
   generalize z / d = q at *;generalize z % d = s at *
   (apply Zo;repeat' ((with_reducible first|apply Zk|(first|apply Za|apply Zb|apply Zc|apply Zd)<;>intro h)<;>try simp -implicitDefEqProofs (maxSteps:=9^7) (disch:=first|omega|(simp only [Qb];omega)) only [go_sem, hkk, hgx, e0, e1, e2, Jv]))
   exact ⟨k, by omega, k, s, Q.set k q, (by (repeat' apply And.intro) <;> (first | rfl | omega | (congr 1; omega) | assumption | (congr 1; assumption)))⟩
  ·obtain rfl : m = 0 := by omega
   (apply Zo;repeat' ((with_reducible first|apply Zk|(first|apply Za|apply Zb|apply Zc|apply Zd)<;>intro h)<;>try simp -implicitDefEqProofs (maxSteps:=9^7) (disch:=first|omega|(simp only [Qb];omega)) only [go_sem]))
   simp only [List.drop_zero, Nat.pow_zero, Nat.div_one] at hinv
   have hqv : lv D10 Q = x / d := by rw [← hinv, Nat.mul_comm, Nat.mul_add_div hd0, Nat.div_eq_of_lt hr, Nat.add_zero]
   have hrv : x % d = r := by rw [← hinv, Nat.mul_comm, Nat.mul_add_mod, Nat.mod_eq_of_lt hr]
   have hu : OwnD [some ⟨3, 1, Xa .i64 Q⟩] (.ref 0 0 (Qq x)) Q := .inr ⟨0, by rw [hQl], rfl, by simp [Yg]⟩
   refine (Qh3 hu (by omega)).mono ?_
   rintro u' H' ⟨rfl, hq⟩
   (apply Zo;repeat' ((with_reducible first|apply Zk|(first|apply Za|apply Zb|apply Zc|apply Zd)<;>intro h)<;>try simp -implicitDefEqProofs (maxSteps:=9^7) (disch:=first|omega|(simp only [Qb];omega)) only [go_sem]))
   refine Gd.ret (Gd.tupL ⟨?_, by rw [hrv]; exact .leaf _ rfl rfl, trivial⟩)
   rw [← Qca hQ hqv];rw [← hQl] at hq hu;exact hq.gd hu
 ·refine ⟨Qq x, 0, List.replicate (Qq x) 0, Nat.le_refl _, by simp, fun x hx => by simp at hx; rw [hx.2]; decide, hd0, by rw [Nat.div_eq_of_lt (Qaw x)]; simp [lv], rfl, rfl, rfl, rfl, rfl, rfl, rfl, rfl⟩
theorem Xgg (x : Nat) : ∃ v H, Gd H v (DV x) ∧ Ji H := Gd.some_sl (Qk _ _) (Xz _ _)
theorem Xf5 (z : Nat) : z * 65536 * 65536 = B32 * z := by rw [Nat.mul_assoc, Nat.mul_comm z]; rfl
theorem Qif (a : List Nat) (ha : a.length ≤ 100000000000) (hA : Lim a) : Val C 102 [NA a] (DV (lv B32 a)) := by
 refine Fc.keep (Fc.bodyT Qe Tryz.func102 w102 rfl Tryz.ntmps102 Tryz.results102 (zLe rfl) ?_)
 (apply Zo;repeat' ((with_reducible first|apply Zk|(first|apply Za|apply Zb|apply Zc|apply Zd)<;>intro h)<;>try simp -implicitDefEqProofs (maxSteps:=9^7) (disch:=first|omega|(simp only [Qb];omega)) only [go_sem]))
 refine Qf (fun n ts H => ∃ (m : Nat) (o : V), (m ≤ a.length) ∧ (Gd H o (DV (lv B32 (a.drop m)))) ∧ (n = m) ∧ ts.length = 23 ∧ nth ts 0 = NA a ∧ nth ts 3 = o ∧ nth ts 4 = .int .i64 ((m : Int) - 1)) ?_ (n := a.length) ?_
 ·skip
  rintro n ts H ⟨m, o, hm, hG, hn, hL, hs0, hs3, hs4⟩;refine Qv [(0, NA a), (3, o), (4, .int .i64 ((m : Int) - 1))] hL (by simp only [zFm, hs0, hs3, hs4, true_and]; exact zNm) ?_
  clear hL hs0 hs3 hs4 ts
  refine Qu Qe ?_;by_cases hcase : 0 < m
  ·obtain ⟨k, rfl⟩ : ∃ k, m = k + 1 := ⟨m - 1, by omega⟩
   have hkk : ((k + 1 : Nat) : Int) - 1 = (k : Int) := by omega
   have hL2 : Lim (a.drop (k + 1)) := fun x hx => hA x (List.mem_of_mem_drop hx)
   have hz : Qq (lv B32 (a.drop (k + 1))) ≤ 3 * a.length := by
    have h1 := Qeo (Qfh hL2)
    rw [List.length_drop] at h1;exact Nat.le_trans h1 (by omega)
   have hd := Qbe (b := B32) (l := a) (i := k) (by omega)
   have hg := hA.get k
   generalize lv B32 (a.drop (k + 1)) = z at *
   have hs := Qad (x := a.getD k 0) (k := 3) (Nat.lt_of_lt_of_le hg (by decide))
   have h65 : Qq 65536 ≤ 2 := Qad (by decide)
   have t1 := Qb5 z 65536 (by omega) (by omega)
   obtain ⟨z1, f1⟩ : ∃ z1, z1 = z * 65536 := ⟨_, rfl⟩
   have hz1 : Qq z1 ≤ Qq z + 2 := by rw [f1]; exact Nat.le_trans (Qfn _ _) (Nat.add_le_add_left h65 _)
   rw [← f1] at t1
   have t2 := Qb5 z1 65536 (by clear f1 t1; omega) (by clear f1 t1; omega)
   obtain ⟨z2, f2⟩ : ∃ z2, z2 = z1 * 65536 := ⟨_, rfl⟩
   have hz2 : Qq z2 ≤ Qq z1 + 2 := by rw [f2]; exact Nat.le_trans (Qfn _ _) (Nat.add_le_add_left h65 _)
   rw [← f2] at t2
   have f3 : z2 = B32 * z := by rw [f2, f1, Xf5]
   clear f1 f2 h65
   (apply Zo;repeat' ((with_reducible first|apply Zk|(first|apply Za|apply Zb|apply Zc|apply Zd)<;>intro h)<;>try simp -implicitDefEqProofs (maxSteps:=9^7) (disch:=first|omega|(simp only [Qb];omega)) only [go_sem, hkk]))
   refine t1.pc ⟨hG.bor, .self rfl, trivial⟩ (Yf _) ?_
   (apply Zo;repeat' ((with_reducible first|apply Zk|(first|apply Za|apply Zb|apply Zc|apply Zd)<;>intro h)<;>try simp -implicitDefEqProofs (maxSteps:=9^7) (disch:=first|omega|(simp only [Qb];omega)) only [go_sem, hkk]))
   refine t2.pc ⟨.self (Yf _), .self rfl, trivial⟩ (Yf _) ?_
   (apply Zo;repeat' ((with_reducible first|apply Zk|(first|apply Za|apply Zb|apply Zc|apply Zd)<;>intro h)<;>try simp -implicitDefEqProofs (maxSteps:=9^7) (disch:=first|omega|(simp only [Qb];omega)) only [go_sem, hkk]))
   refine (Qgg (a.getD k 0) (by omega)).pc ⟨.self rfl, trivial⟩ (Yf _) ?_
   (apply Zo;repeat' ((with_reducible first|apply Zk|(first|apply Za|apply Zb|apply Zc|apply Zd)<;>intro h)<;>try simp -implicitDefEqProofs (maxSteps:=9^7) (disch:=first|omega|(simp only [Qb];omega)) only [go_sem, hkk]))
   refine Pc.kept (Qli z2 (a.getD k 0) (by omega) (by omega)) (Xgg _) ⟨.self (Yf _), .self (Yf _), trivial⟩ fun v X hv => ?_
   (apply Zo;repeat' ((with_reducible first|apply Zk|(first|apply Za|apply Zb|apply Zc|apply Zd)<;>intro h)<;>try simp -implicitDefEqProofs (maxSteps:=9^7) (disch:=first|omega|(simp only [Qb];omega)) only [go_sem, hkk]))
   have e : z2 + a.getD k 0 = lv B32 (a.drop k) := by rw [hd, f3, Nat.add_comm]
   rw [e] at hv;exact ⟨k, by omega, k, v, (by (repeat' apply And.intro) <;> (first | rfl | omega | (congr 1; omega) | assumption | (congr 1; assumption)))⟩
  ·obtain rfl : m = 0 := by omega
   (apply Zo;repeat' ((with_reducible first|apply Zk|(first|apply Za|apply Zb|apply Zc|apply Zd)<;>intro h)<;>try simp -implicitDefEqProofs (maxSteps:=9^7) (disch:=first|omega|(simp only [Qb];omega)) only [go_sem]))
   rw [List.drop_zero] at hG;exact Gd.ret hG
 ·exact ⟨a.length, .nil, Nat.le_refl _, by rw [List.drop_length, show lv B32 [] = 0 from rfl, DV, Xv]; exact .nil _, rfl, rfl, rfl, rfl, rfl⟩
theorem Qku (x : Nat) (hx : Qq x ≤ 100000000000) : Val C 127 [DV x] (Ye x) := by
 have hlx := Qgk x
 refine Fc.keep (Fc.bodyT Qe Tryz.func127 w127 rfl Tryz.ntmps127 Tryz.results127 (zLe rfl) ?_)
 (apply Zo;repeat' ((with_reducible first|apply Zk|(first|apply Za|apply Zb|apply Zc|apply Zd)<;>intro h)<;>try simp -implicitDefEqProofs (maxSteps:=9^7) (disch:=first|omega|(simp only [Qb];omega)) only [go_sem]))
 refine Qf (fun n ts H => ∃ (z : Nat) (l : List Nat) (u : V), (z ≤ x) ∧ (dg B32 x = l ++ dg B32 z) ∧ (n = z) ∧ (Bv.Own 59 1 H u l.length (Xa .u32 l)) ∧ ts.length = 32 ∧ nth ts 0 = DV z ∧ nth ts 3 = u) ?_ (n := x) ?_
 ·skip
  rintro n ts H ⟨z, l, u, hz, hd, hn, hu, hL, hs0, hs3⟩;refine Qv [(0, DV z), (3, u)] hL (by simp only [zFm, hs0, hs3, true_and]; exact zNm) ?_
  clear hL hs0 hs3 ts
  refine Qu Qe ?_
  have lz : (dg D10 z).length = Qq z := rfl
  have hz1 := Jn hz
  have hz2 := Jn (show z / 65536 ≤ z from Nat.div_le_self _ _)
  have hlen := congrArg List.length hd
  rw [List.length_append] at hlen
  have hlx' : (dg B32 x).length ≤ Qq x := hlx
  by_cases hcase : 0 < z
  ·have hz0 : Qq z ≠ 0 := fun h => by have := dlen_zero.1 h; omega
   (apply Zo;repeat' ((with_reducible first|apply Zk|(first|apply Za|apply Zb|apply Zc|apply Zd)<;>intro h)<;>try simp -implicitDefEqProofs (maxSteps:=9^7) (disch:=first|omega|(simp only [Qb];omega)) only [go_sem]))
   refine (Qg4 z 65536 (by omega) (by decide) (by decide)).call ⟨.self (Yf _), .self rfl, trivial⟩ (by simp [clo, Qi, Yf]) ?_
   (apply Zo;repeat' ((with_reducible first|apply Zk|(first|apply Za|apply Zb|apply Zc|apply Zd)<;>intro h)<;>try simp -implicitDefEqProofs (maxSteps:=9^7) (disch:=first|omega|(simp only [Qb];omega)) only [go_sem]))
   refine (Qg4 (z / 65536) 65536 (by omega) (by decide) (by decide)).call ⟨.self (Yf _), .self rfl, trivial⟩ (by simp [clo, Qi, Yf]) ?_
   have b1 := Nat.mod_lt z (show 0 < 65536 by decide)
   have b2 := Nat.mod_lt (z / 65536) (show 0 < 65536 by decide)
   have e1 : z / 65536 / 65536 = z / B32 := by rw [Nat.div_div_eq_div_mul]; rfl
   have e2 : z / 65536 % 65536 * 65536 + z % 65536 = z % B32 := by
    rw [show B32 = 65536 * 65536 from rfl, Nat.mod_mul]; omega
   have hlt : z / B32 < z := Nat.div_lt_self hcase (by decide)
   have hdd : dg B32 x = (l ++ [z % B32]) ++ dg B32 (z / B32) := by rw [List.append_assoc, hd, Qcv (by decide) hcase]; rfl
   rw [e1];generalize z / 65536 % 65536 = y1 at *;generalize z % 65536 = y0 at *;generalize z / B32 = z' at *;obtain ⟨w, hw⟩ : ∃ w, w = z % B32 := ⟨_, rfl⟩;rw [← hw] at hdd e2
   have e3 : ((y1 : Int) * 65536 + (y0 : Int)) = (w : Int) := by omega
   (apply Zo;repeat' ((with_reducible first|apply Zk|(first|apply Za|apply Zb|apply Zc|apply Zd)<;>intro h)<;>try simp -implicitDefEqProofs (maxSteps:=9^7) (disch:=first|omega|(simp only [Qb];omega)) only [go_sem, e3]))
   refine Qf4 hu rfl ⟨by decide, by decide⟩ (by omega) fun v' H' hu' _ => ?_
   (apply Zo;repeat' ((with_reducible first|apply Zk|(first|apply Za|apply Zb|apply Zc|apply Zd)<;>intro h)<;>try simp -implicitDefEqProofs (maxSteps:=9^7) (disch:=first|omega|(simp only [Qb];omega)) only [go_sem, e3]))
   exact ⟨z', by omega, z', l ++ [w], v', (by (repeat' apply And.intro) <;> (first | rfl | omega | (congr 1; omega) | assumption | (congr 1; assumption)))⟩
  ·obtain rfl : z = 0 := by omega
   have hz0 : Qq 0 = 0 := dlen_zero.2 rfl
   rw [Xv, List.append_nil] at hd
   (apply Zo;repeat' ((with_reducible first|apply Zk|(first|apply Za|apply Zb|apply Zc|apply Zd)<;>intro h)<;>try simp -implicitDefEqProofs (maxSteps:=9^7) (disch:=first|omega|(simp only [Qb];omega)) only [go_sem]))
   rw [Ye, hd];exact (Own.gd hu (Qk _ _) (Xz _ _)).ret
 ·exact ⟨x, [], .nil, Nat.le_refl _, rfl, rfl, .nil .., rfl, rfl, rfl⟩
theorem Qk8 (l : List Nat) (hl : l.length ≤ 1000000000000) : Pu C 112 [NA l] (.bool (decide (Xx l = l.length))) := by
 refine Fc.keep (Fc.bodyT Qe Tryz.func112 w112 rfl Tryz.ntmps112 Tryz.results112 (zLe rfl) ?_)
 (apply Zo;repeat' ((with_reducible first|apply Zk|(first|apply Za|apply Zb|apply Zc|apply Zd)<;>intro h)<;>try simp -implicitDefEqProofs (maxSteps:=9^7) (disch:=first|omega|(simp only [Qb];omega)) only [go_sem]))
 all_goals (refine Qo (by intro g; simp only [go_sem, ren, Ql]) ?_)
 ·have : l = [] := List.length_eq_zero_iff.1 (by omega)
  subst this; rfl
 ·obtain ⟨k, hk⟩ : ∃ k, l.length = k + 1 := ⟨l.length - 1, by omega⟩
  have ht := Kt (l := l) (n := k) (by omega)
  rw [← hk, List.take_length] at ht
  have e : l.length - 1 = k := by omega
  have hle := Qab (l.take k)
  rw [List.length_take] at hle;rw [e] at *;rw [ht]
  (simp only [V.tup.injEq, List.cons.injEq, V.int.injEq, V.bool.injEq, true_and, and_true]; (try rw [Bool.eq_iff_iff]); (try simp only [decide_eq_true_eq, decide_eq_false_iff_not, Decidable.not_not, true_and, and_true, Bool.not_eq_true, Bool.not_eq_eq_eq_not, Bool.not_true, Bool.and_eq_true, Bool.or_eq_true, beq_iff_eq, bne_iff_ne, ne_eq, Bool.false_eq_true, false_iff, true_iff, iff_false, iff_true]); (try omega))
  split <;> omega
theorem Qx3 {l : List Nat} (hL : Lim l) (x : Nat) : (Xx l = l.length ∧ lv B32 l = x) ↔ l = dg B32 x := by
 constructor
 ·rintro ⟨h1, rfl⟩
  have := Qjf (b := B32) (by decide) hL
  rw [this, h1, List.take_length]
 ·rintro rfl;exact ⟨Xdt (by decide) x, Xf x⟩
theorem Qmm (x : Nat) (a : List Nat) (hx : Qq x ≤ 1000000000000) (ha : a.length ≤ 100000000000) (hA : Lim a) : Pu C 94 [DV x, NA a] (.bool (decide (a = dg B32 x))) := by
 have hc := Qx3 hA x
 have hz : Qq (lv B32 a) ≤ 3 * a.length := Qeo (Qfh hA)
 have hcm : Qal (lv B32 a) x = 0 ↔ lv B32 a = x := by unfold Qal; split <;> (try split) <;> omega
 refine Fc.keep (Fc.bodyT Qe Tryz.func94 w94 rfl Tryz.ntmps94 Tryz.results94 (zLe rfl) ?_)
 (apply Zo;repeat' ((with_reducible first|apply Zk|(first|apply Za|apply Zb|apply Zc|apply Zd)<;>intro h)<;>try simp -implicitDefEqProofs (maxSteps:=9^7) (disch:=first|omega|(simp only [Qb];omega)) only [go_sem]))
 refine Fc.pure (Qk8 a (by omega)) (by simp [go_sem, Qi, clo, Qc, Qx]) (by intro g; simp only [go_sem, ren, Ql]) ?_
 (apply Zo;repeat' ((with_reducible first|apply Zk|(first|apply Za|apply Zb|apply Zc|apply Zd)<;>intro h)<;>try simp -implicitDefEqProofs (maxSteps:=9^7) (disch:=first|omega|(simp only [Qb];omega)) only [go_sem]))
 ·refine (Qif a ha hA).call ⟨.self (Xl _), trivial⟩ (Yf _) ?_
  (apply Zo;repeat' ((with_reducible first|apply Zk|(first|apply Za|apply Zb|apply Zc|apply Zd)<;>intro h)<;>try simp -implicitDefEqProofs (maxSteps:=9^7) (disch:=first|omega|(simp only [Qb];omega)) only [go_sem]))
  refine Fc.pure (Qcx (lv B32 a) x (by omega) hx) (by simp [Qi, clo, Qk]) (fun g => rfl) ?_
  (apply Zo;repeat' ((with_reducible first|apply Zk|(first|apply Za|apply Zb|apply Zc|apply Zd)<;>intro h)<;>try simp -implicitDefEqProofs (maxSteps:=9^7) (disch:=first|omega|(simp only [Qb];omega)) only [go_sem]))
  (refine Qo (by intro g; simp only [go_sem, ren, Ql]) ?_)
  (simp only [V.tup.injEq, List.cons.injEq, V.int.injEq, V.bool.injEq, true_and, and_true]; (try rw [Bool.eq_iff_iff]); (try simp only [decide_eq_true_eq, decide_eq_false_iff_not, Decidable.not_not, true_and, and_true, Bool.not_eq_true, Bool.not_eq_eq_eq_not, Bool.not_true, Bool.and_eq_true, Bool.or_eq_true, beq_iff_eq, bne_iff_ne, ne_eq, Bool.false_eq_true, false_iff, true_iff, iff_false, iff_true]); (try omega))
  rw [hcm, ← hc];exact ⟨fun h' => ⟨h, h'⟩, fun h' => h'.2⟩
 ·skip
  (refine Qo (by intro g; simp only [go_sem, ren, Ql]) ?_)
  (simp only [V.tup.injEq, List.cons.injEq, V.int.injEq, V.bool.injEq, true_and, and_true]; (try rw [Bool.eq_iff_iff]); (try simp only [decide_eq_true_eq, decide_eq_false_iff_not, Decidable.not_not, true_and, and_true, Bool.not_eq_true, Bool.not_eq_eq_eq_not, Bool.not_true, Bool.and_eq_true, Bool.or_eq_true, beq_iff_eq, bne_iff_ne, ne_eq, Bool.false_eq_true, false_iff, true_iff, iff_false, iff_true]); (try omega))
  rw [← hc];exact fun h' => h h'.1
end Go.Proofs.YtjdbdmhjakfldaaGreat
end
