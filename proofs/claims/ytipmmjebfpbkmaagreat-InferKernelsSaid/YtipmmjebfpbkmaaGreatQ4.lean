/-
  Parts CodeK4, CodeK5, CodeK6, CodeK7, CodeK8, Codes, Ref6, Ref11, Ref11b, Ref11c, Ref12, Ref12b, Sh6, Op1, Op2, Op3, Srt, Srt2, one behind the other: a program logic of our own, contracts of functions.
-/
import Derived.Test.YtipmmjebfpbkmaaGreatQ3

set_option linter.unusedVariables false
set_option linter.unusedSimpArgs false
set_option maxRecDepth 100000
set_option maxHeartbeats 8000000
section
namespace Go.Proofs.YtipmmjebfpbkmaaGreat
open Go Go.Bv
theorem w6:Tryz.f6.body.map (Qq C)=some (.q (.R [Wa 2 (Wk 0)]) (.q (.q (.R [Wm 6 t0,Wn 7 t6 23,Wb 8 .gtr 3 t7 (Wk 4)]) (.c t8 (.q (.R [Wa 2 (Wk 14)]) .r) .s)) (.q (.q (.R [Wa 3 (Wk 0)]) (.b 0 (.l (.q (.q (.R [Wm 9 t3,Wm 10 t0,Wn 11 t10 23,Wb 12 .lss 3 t9 t11]) (.c t12 .s (.x 0))) (.q (.b 1 (.q (.R [Wm 15 t0,Wm 16 t3,Wi 17 23 t15 t16,Wl 18 3 t17,Wb 19 .lss 3 t18 (Wk 1)]) (.c t19 (.q (.R [Wa 2 (Wk 13)]) .r) .s))) (.R [Wm 13 t3,Wb 14 .add 3 t13 (Wk 1),Wa 3 t14])))))) (.q (.R [Wa 4 (Wk 1)]) (.q (.q (.R [Wa 5 (Wk 0)]) (.b 2 (.l (.q (.q (.R [Wm 20 t5,Wm 21 t0,Wn 22 t21 23,Wb 23 .lss 3 t20 t22]) (.c t23 .s (.x 2))) (.q (.b 3 (.q (.q (.R [Wm 26 t0,Wm 27 t5,Wi 28 23 t26 t27,Wl 29 3 t28,Wb 30 .gtr 3 t29 (Wk 1024)]) (.c t30 (.q (.R [Wa 2 (Wk 14)]) .r) .s)) (.q (.R [Wm 31 t4,Wm 32 t0,Wm 33 t5,Wi 34 23 t32 t33,Wl 35 3 t34,Wb 36 .mul 3 t31 t35,Wa 4 t36]) (.q (.R [Wm 37 t4,Wb 38 .gtr 3 t37 (Wk 1024)]) (.c t38 (.q (.R [Wa 2 (Wk 14)]) .r) .s))))) (.R [Wm 24 t5,Wb 25 .add 3 t24 (Wk 1),Wa 5 t25])))))) (.q (.R [Wa 2 (Wk 0)]) .r)))))):=by kernel_rfl
theorem w14:Tryz.f14.body.map (Qq C)=some (.q (.R [Wa 4 Wo]) (.q (.q (.R [Wm 5 t1]) (.b 0 (.q (.q (.R [Wb 7 .eql 22 t5 (Wk 6),Wa 6 t7]) (.c t6 .s (.q (.R [Wb 8 .eql 22 t5 (Wk 11),Wa 6 t8]) (.c t6 .s (.R [Wb 9 .eql 22 t5 (Wk 17),Wa 6 t9]))))) (.c t6 (.q (.R [Wm 10 t0,Wb 11 .eql 3 t10 (Wk 1),Wa 4 t11]) .r) (.q (.q (.R [Wb 13 .eql 22 t5 (Wk 14),Wa 12 t13]) (.c t12 .s (.R [Wb 14 .eql 22 t5 (Wk 20),Wa 12 t14]))) (.c t12 (.q (.R [Wm 15 t0,Wb 16 .lss 3 t15 (Wk 3),Wa 4 t16]) .r) .s)))))) (.q (.R [Wa 4 Wo]) .r))):=by kernel_rfl
theorem w22:Tryz.f22.body.map (Qq C)=some (.q (.R [Wa 6 (.const (.slice none 0 0)),Wa 7 (Wk 0)]) (.q (.R [Wm 13 t2,Wi 14 26 t13 (Wk 0),Wl 15 31 t14,Wc 16 53 #[t15] #[31],Wa 8 t16]) (.q (.R [Wm 17 t1,Wc 18 54 #[t17] #[23],Wa 9 t18]) (.q (.R [Wa 10 (.func 55)]) (.q (.q (.R [Wm 19 t0]) (.b 0 (.q (.b 10 (.q (.b 9 (.q (.b 8 (.q (.b 7 (.q (.b 6 (.q (.b 5 (.q (.b 4 (.q (.b 3 (.q (.b 2 (.q (.b 1 (.q (.q (.q (.q (.R [Wb 21 .eql 22 t19 (Wk 1),Wa 20 t21]) (.c t20 .s (.q (.R [Wb 22 .eql 22 t19 (Wk 2),Wa 20 t22]) (.c t20 .s (.q (.R [Wb 23 .eql 22 t19 (Wk 3),Wa 20 t23]) (.c t20 .s (.R [Wb 24 .eql 22 t19 (Wk 4),Wa 20 t24]))))))) (.c t20 (.x 1) .s)) (.q (.q (.R [Wb 26 .eql 22 t19 (Wk 19),Wa 25 t26]) (.c t25 (.x 2) .s)) (.q (.q (.R [Wb 28 .eql 22 t19 (Wk 10),Wa 27 t28]) (.c t27 (.x 3) .s)) (.q (.q (.R [Wb 30 .eql 22 t19 (Wk 11),Wa 29 t30]) (.c t29 (.x 4) .s)) (.q (.q (.R [Wb 32 .eql 22 t19 (Wk 12),Wa 31 t32]) (.c t31 (.x 5) .s)) (.q (.q (.R [Wb 34 .eql 22 t19 (Wk 13),Wa 33 t34]) (.c t33 (.x 6) .s)) (.q (.q (.q (.R [Wb 36 .eql 22 t19 (Wk 14),Wa 35 t36]) (.c t35 .s (.R [Wb 37 .eql 22 t19 (Wk 20),Wa 35 t37]))) (.c t35 (.x 7) .s)) (.q (.q (.R [Wb 39 .eql 22 t19 (Wk 15),Wa 38 t39]) (.c t38 (.x 8) .s)) (.q (.q (.R [Wb 41 .eql 22 t19 (Wk 16),Wa 40 t41]) (.c t40 (.x 9) .s)) (.q (.R [Wb 43 .eql 22 t19 (Wk 17),Wa 42 t43]) (.c t42 (.x 10) .s))))))))))) (.x 0))) (.q (.q (.R [Wm 44 t10,Wm 45 t8,Wm 46 t2,Wi 47 26 t46 (Wk 1),Wl 48 31 t47,Wc 49 56 #[t45,t48] #[31,31],Wm 50 t8,.n 51 (.call ⟨.value t44,#[t49,t50],#[4,31]⟩),We 52 t51 0,We 53 t51 1,Wa 6 t52,Wa 7 t53]) .r) (.x 0)))) (.q (.R [Wm 55 t8,Wm 56 t2,Wi 57 26 t56 (Wk 1),Wl 58 31 t57,Wc 59 57 #[t55,t58] #[31,31],Wm 54 t59,We 60 t54 0,We 61 t54 1,Wa 11 t60,Wa 12 t61]) (.q (.q (.R [Wm 62 t12,Wb 63 .eql 36 t62 (Wk 0),Wm 64 t63,.g (some 65) (.move t2) 64 true,.g (some 66) (.indexAddr 26 t65 (Wk 2)) 64 true,.g (some 67) (.load 31 t66) 64 true,.g (some 68) (.move t11) 64 true,.g (some 69) (.call ⟨.value (.func 58),#[t67,t68],#[31,31]⟩) 64 true,.g (some 70) (.binOp .neq 36 t69 (Wk 0) 36) 64 true,.n 71 (.pick t64 t70 Wo)]) (.c t71 (.q (.R [Wa 6 (.const (.slice none 0 0)),Wa 7 (Wk 13)]) .r) .s)) (.q (.R [Wm 72 t12,Wb 73 .neq 36 t72 (Wk 0)]) (.c t73 (.q (.R [Wm 74 t12,Wa 6 (.const (.slice none 0 0)),Wa 7 t74]) .r) .s)))))) (.q (.q (.R [Wm 75 t8,Wm 76 t2,Wi 77 26 t76 (Wk 1),Wl 78 31 t77,Wc 79 57 #[t75,t78] #[31,31],We 80 t79 0,We 81 t79 1,Wa 6 t80,Wa 7 t81]) .r) (.x 0)))) (.q (.q (.R [Wm 82 t8,Wm 83 t1,Wc 84 59 #[t82,t83] #[31,23],We 85 t84 0,We 86 t84 1,Wa 6 t85,Wa 7 t86]) .r) (.x 0)))) (.q (.q (.R [Wm 87 t10,Wm 88 t8,Wc 89 60 #[t88] #[31],Wm 90 t9,Wc 91 60 #[t90] #[31],Wb 92 .eql 3 t89 t91,Wm 93 t9,.n 94 (.call ⟨.value t87,#[t92,t93],#[4,31]⟩),We 95 t94 0,We 96 t94 1,Wa 6 t95,Wa 7 t96]) .r) (.x 0)))) (.q (.q (.R [Wm 97 t10,Wm 98 t8,Wm 99 t9,Wc 100 58 #[t98,t99] #[31,31],Wb 101 .eql 36 t100 (Wk 0),Wm 102 t9,.n 103 (.call ⟨.value t97,#[t101,t102],#[4,31]⟩),We 104 t103 0,We 105 t103 1,Wa 6 t104,Wa 7 t105]) .r) (.x 0)))) (.q (.q (.R [Wm 106 t10,Wm 107 t1,Wm 108 t8,Wn 109 t108 31,Wc 110 61 #[t107,t109] #[23,3],Wb 111 .eql 36 t110 (Wk 0),Wm 112 t8,Wm 113 t1,Wc 114 62 #[t112,t113] #[31,23],.n 115 (.call ⟨.value t106,#[t111,t114],#[4,31]⟩),We 116 t115 0,We 117 t115 1,Wa 6 t116,Wa 7 t117]) .r) (.x 0)))) (.q (.q (.R [Wm 118 t8,Wm 119 t1,Wc 120 63 #[t118,t119,.func 64] #[31,23,98],We 121 t120 0,We 122 t120 1,Wa 6 t121,Wa 7 t122]) .r) (.x 0)))) (.q (.q (.R [Wm 123 t8,Wm 124 t1,Wc 125 63 #[t123,t124,.func 65] #[31,23,98],We 126 t125 0,We 127 t125 1,Wa 6 t126,Wa 7 t127]) .r) (.x 0)))) (.q (.q (.R [Wm 128 t1,Wi 129 23 t128 (Wk 0),Wl 130 3 t129,Wm 131 t2,Wc 132 66 #[t130,t131] #[3,26],We 133 t132 0,We 134 t132 1,Wa 6 t133,Wa 7 t134]) .r) (.x 0))))) (.q (.R [Wm 135 t8,Wa 6 t135,Wa 7 (Wk 0)]) .r)))))):=by kernel_rfl
theorem w30:Tryz.f30.body.map (Qq C)=some (.q (.R [.n 2 (.box 34 t0),.n 3 (.box 3 t1),Wv 4 34,Wa 5 (Wk 0)]) (.q (.q (.R [Wl 7 34 t2,Wc 8 76 #[t7] #[34],Wa 6 t8]) (.q (.R [Wm 9 t6,Wb 10 .neq 36 t9 (Wk 0)]) (.c t10 (.q (.R [.n 11 (.build 34 #[]),Wm 12 t6,Ws 34 t4 t11,Wa 5 t12]) .r) .s))) (.q (.q (.R [Wl 13 3 t3,Wb 14 .lss 3 t13 (Wk 0),Wm 15 t14,.g (some 16) (.load 3 t3) 15 false,.g (some 17) (.binOp .gtr 3 t16 (Wk 16) 3) 15 false,.n 18 (.pick t15 Wt t17)]) (.c t18 (.q (.R [.n 19 (.build 34 #[]),Ws 34 t4 t19,Wa 5 (Wk 11)]) .r) .s)) (.q (.R [Wl 20 34 t2,.n 21 (.makeFunc (.func 77) #[] #[t3]),Wc 22 74 #[t20,t21] #[34,106],We 23 t22 0,We 24 t22 1,Ws 34 t4 t23,Wa 5 t24]) .r)))):=by kernel_rfl
theorem w38:Tryz.f38.body.map (Qq C)=some (.q (.R [.n 2 (.box 34 t0),.n 3 (.box 23 t1),Wv 4 34,Wa 5 (Wk 0)]) (.q (.q (.R [Wl 11 34 t2,Wc 12 76 #[t11] #[34],Wa 6 t12]) (.q (.R [Wm 13 t6,Wb 14 .neq 36 t13 (Wk 0)]) (.c t14 (.q (.R [.n 15 (.build 34 #[]),Wm 16 t6,Ws 34 t4 t15,Wa 5 t16]) .r) .s))) (.q (.q (.R [Wl 17 23 t3,Wf 18 34 t2 0,Wl 19 31 t18,Wn 20 t19 31,Wc 21 90 #[t17,t20] #[23,3],Wa 7 t21]) (.q (.R [Wm 22 t7,Wb 23 .neq 36 t22 (Wk 0)]) (.c t23 (.q (.R [.n 24 (.build 34 #[]),Wm 25 t7,Ws 34 t4 t24,Wa 5 t25]) .r) .s))) (.q (.R [Wl 26 23 t3,Wn 27 t26 23,.n 28 (.makeSlice 31 t27 t27),Wa 8 t28]) (.q (.q (.R [Wl 29 23 t3,Wn 30 t29 23,Wm 31 (Wk 0)]) (.b 0 (.l (.q (.R [Wb 32 .lss 3 t31 t30]) (.q (.c t32 .s (.x 0)) (.q (.b 1 (.q (.R [Wm 33 t31,Wi 34 23 t29 t31,Wl 35 3 t34,Wa 9 t33,Wa 10 t35]) (.R [Wm 36 t8,Wm 37 t9,Wf 38 34 t2 0,Wl 39 31 t38,Wm 40 t10,Wi 41 31 t39 t40,Wl 42 3 t41,Wi 43 31 t36 t37,Ws 3 t43 t42]))) (.R [Wb 44 .add 3 t31 (Wk 1),Wm 31 t44]))))))) (.q (.R [Wl 45 34 t2,Wm 46 t8,.n 47 (.makeFunc (.func 92) #[] #[t3]),Wc 48 91 #[t45,t46,t47] #[34,31,88],We 49 t48 0,We 50 t48 1,Ws 34 t4 t49,Wa 5 t50]) .r)))))):=by kernel_rfl
theorem w46:Tryz.f46.body.map (Qq C)=some (.q (.R [Wa 4 Wo]) (.q (.q (.R [Wm 5 t0,Wb 6 .lss 3 t5 (Wk 0)]) (.c t6 (.R [Wm 7 t0,.n 8 (.unOp .neg 3 t7),Wa 0 t8]) .s)) (.q (.b 0 (.l (.q (.q (.R [Wm 9 t1,Wb 10 .gtr 3 t9 (Wk 0)]) (.c t10 .s (.x 0))) (.b 1 (.D true [Wm 11 t1,Wm 12 t0,Wm 13 t1,Wb 14 .rem 3 t12 t13,Wa 0 t11,Wa 1 t14]))))) (.q (.R [Wm 15 t0,Wb 16 .neq 3 t15 (Wk 1),Wa 4 t16]) .r)))):=by kernel_rfl
theorem w54:Tryz.f54.body.map (Qq C)=some (.q (.R [Wa 2 (.const (.slice none 0 0))]) (.q (.q (.R [Wm 3 t0,Wb 4 .eql 23 t3 (.const (.slice none 0 0))]) (.c t4 (.q (.R [Wa 2 (.const (.slice none 0 0))]) .r) .s)) (.q (.R [.n 5 (.buildSlice 23 0 #[]),Wm 6 t0,.n 7 (.call ⟨.builtin .append,#[t5,t6],#[23,23]⟩),Wa 2 t7]) .r))):=by kernel_rfl
theorem w62:Tryz.f62.body.map (Qq C)=some (.q (.R [Wa 4 (.const (.slice none 0 0))]) (.q (.R [Wm 5 t0,Wm 6 t1,Wc 7 114 #[t5,t6,.func 115] #[31,23,87],Wa 4 t7]) .r)):=by kernel_rfl
theorem w70:Tryz.f70.body.map (Qq C)=some (.q (.R [.n 2 (.box 70 t0),.n 3 (.box 70 t1),Wv 4 70]) (.q (.R [Wl 5 70 t2,Wl 6 70 t3,.n 7 (.build 147 #[]),.n 8 (.makeFunc (.func 120) #[t7] #[]),Wc 9 119 #[t5,t6,t8] #[70,70,106],Ws 70 t4 t9]) .r)):=by kernel_rfl
theorem w78:Tryz.f78.body.map (Qq C)=some (.q (.R [.n 2 (.box 70 t0),Wv 4 70]) (.q (.R [Wl 5 70 t2,Wc 6 82 #[t5] #[70],Ws 70 t2 t6]) (.q (.D true [Wf 7 70 t2 0,Wl 8 4 t7,Wm 9 t8,.g (some 10) (.move t1) 9 true,.g (some 11) (.binOp .gtr 3 t10 (Wk 0) 3) 9 true,.n 12 (.pick t9 t11 Wo),Wm 13 t12,.g (some 14) (.move t1) 13 true,.g (some 15) (.binOp .rem 3 t14 (Wk 2) 3) 13 true,.g (some 16) (.binOp .eql 3 t15 (Wk 1) 3) 13 true,.n 17 (.pick t13 t16 Wo),Wf 18 70 t2 1,Wl 19 68 t18,Wm 20 t1,Wc 21 126 #[t19,t20] #[68,3],Wf 22 70 t2 2,Wl 23 68 t22,Wm 24 t1,Wc 25 126 #[t23,t24] #[68,3],.n 26 (.build 70 #[(0,t17),(1,t21),(2,t25)]),Ws 70 t4 t26]) .r))):=by kernel_rfl
theorem w86:Tryz.f86.body.map (Qq C)=some (.q (.R [Wv 6 56]) (.q (.q (.R [Wm 12 t1,Wn 13 t12 54,Wb 14 .eql 3 t13 (Wk 0),Wm 15 t14,.g (some 16) (.move t2) 15 false,.g (some 17) (.call ⟨.builtin .len,#[t16],#[54]⟩) 15 false,.g (some 18) (.binOp .eql 3 t17 (Wk 0) 3) 15 false,.n 19 (.pick t15 Wt t18)]) (.c t19 (.q (.R [.n 20 (.buildSlice 54 1 #[(0,Wk 1)]),.n 21 (.build 56 #[(2,t20)]),Ws 56 t6 t21]) .r) .s)) (.q (.R [Wm 22 t1,Wm 23 t2,Wc 24 131 #[t22,t23] #[54,54],Wa 7 t24]) (.q (.R [Wm 26 t1,Wm 27 t7,Wc 28 132 #[t26,t27] #[54,54],Wm 25 t28,We 29 t25 0,We 30 t25 1,Wa 8 t29,Wa 9 t30]) (.q (.R [Wm 32 t2,Wm 33 t7,Wc 34 132 #[t32,t33] #[54,54],Wm 31 t34,We 35 t31 0,We 36 t31 1,Wa 10 t35,Wa 11 t36]) (.q (.R [Wm 37 t0,Wm 38 t8,Wm 39 t10,.n 40 (.build 56 #[(0,t37),(1,t38),(2,t39)]),Ws 56 t6 t40]) .r)))))):=by kernel_rfl
theorem w94:Tryz.f94.body.map (Qq C)=some (.q (.R [Wv 4 34,Wa 5 (Wk 0)]) (.q (.R [Wm 8 t0,Wm 9 t1,.n 10 (.build 34 #[(0,t8),(1,t9)]),Wv 6 34,Ws 34 t6 t10]) (.q (.q (.R [Wl 11 34 t6,Wc 12 122 #[t11] #[34],Wa 7 t12]) (.q (.R [Wm 13 t7,Wb 14 .neq 36 t13 (Wk 0)]) (.c t14 (.q (.R [.n 15 (.build 34 #[]),Wm 16 t7,Ws 34 t4 t15,Wa 5 t16]) .r) .s))) (.q (.R [Wl 17 34 t6,Wc 18 123 #[t17] #[34],Wc 19 140 #[t18,.func 82] #[152,106],Wc 20 139 #[t19] #[152],Ws 34 t4 t20,Wa 5 (Wk 0)]) .r)))):=by kernel_rfl
theorem w102:Tryz.f102.body.map (Qq C)=some (.q (.R [Wa 3 (.const (.slice none 0 0))]) (.q (.R [Wm 7 t0,Wc 8 54 #[t7] #[23],Wv 4 23,Ws 23 t4 t8]) (.q (.q (.R [Wl 9 23 t1,Wc 10 101 #[t9] #[23]]) (.b 0 (.f t10 #[11,12] (.q (.R [Wa 5 t11]) (.R [Wv 6 131,Ws 131 t6 t12])) (.b 1 (.D true [Wl 13 23 t4,Wm 14 t5,Wi 15 23 t13 t14,Wl 16 3 t15,Wi 17 131 t6 (Wk 0),Wl 18 3 t17,Wb 19 .add 3 t16 t18,Wi 20 23 t13 t14,Ws 3 t20 t19]))))) (.q (.R [Wl 21 23 t4,Wa 3 t21]) .r)))):=by kernel_rfl
theorem w110:Tryz.f110.body.map (Qq C)=some (.q (.R [.n 2 (.box 82 t0),Wa 3 Wo]) (.q (.R [Wf 4 82 t2 0,Wl 5 22 t4,Wl 6 22 t1,Wb 7 .eql 22 t5 t6,Wa 3 t7]) .r)):=by kernel_rfl
theorem w118:Tryz.f118.body.map (Qq C)=some (.q (.R [.n 3 (.box 70 t0),.n 4 (.box 70 t1),Wv 5 70,Wa 6 (Wk 0)]) (.q (.R [Wl 7 104 t2,Wl 8 70 t3,Wl 9 70 t4,.n 10 (.call ⟨.value t7,#[t8,t9],#[70,70]⟩),Ws 70 t5 t10,Wa 6 (Wk 0)]) .r)):=by kernel_rfl
theorem w126:Tryz.f126.body.map (Qq C)=some (.q (.R [Wa 4 (.const (.slice none 0 0))]) (.q (.R [Wc 6 155 #[.const (.int .u64 1)] #[189],Wa 5 t6]) (.q (.q (.R [Wm 7 t0,Wc 8 156 #[t7] #[68],Wa 0 t8]) (.b 0 (.l (.q (.q (.R [Wm 9 t1,Wb 10 .gtr 3 t9 (Wk 0)]) (.c t10 .s (.x 0))) (.q (.b 1 (.q (.q (.R [Wm 13 t1,Wb 14 .and 3 t13 (Wk 1),Wb 15 .eql 3 t14 (Wk 1)]) (.c t15 (.R [Wm 16 t5,Wm 17 t0,Wc 18 149 #[t16,t17] #[68,68],Wa 5 t18]) .s)) (.q (.R [Wm 19 t1,Wb 20 .gtr 3 t19 (Wk 1)]) (.c t20 (.R [Wm 21 t0,Wm 22 t0,Wc 23 149 #[t21,t22] #[68,68],Wa 0 t23]) .s)))) (.R [Wm 11 t1,.n 12 (.binOp .shr 3 t11 (.const (.int .u64 1)) 191),Wa 1 t12])))))) (.q (.R [Wm 24 t5,Wa 4 t24]) .r)))):=by kernel_rfl
theorem w134:Tryz.f134.body.map (Qq C)=some (.q (.R [.n 1 (.box 31 t0),Wa 2 (.const .nilFunc)]) (.q (.R [.n 3 (.makeFunc (.func 166) #[] #[t1]),Wa 2 t3]) .r)):=by kernel_rfl
theorem w142:Tryz.f142.body.map (Qq C)=some (.q (.R [Wa 3 (Wk 0)]) (.b 0 (.l (.q (.q (.R [Wm 4 t3,Wb 5 .add 3 t4 (Wk 1),Wl 6 23 t1,Wn 7 t6 23,Wb 8 .lss 3 t5 t7]) (.c t8 .s (.x 0))) (.q (.b 1 (.q (.U [Wm 11 t0,Wm 12 t3,Wb 13 .quo 3 t12 (Wk 2),Wl 14 23 t1,Wm 15 t3,Wi 16 23 t14 t15,Wl 17 3 t16,Wl 18 23 t1,Wm 19 t3,Wb 20 .add 3 t19 (Wk 1),Wi 21 23 t18 t20,Wl 22 3 t21,.n 23 (.build 131 #[(0,t17),(1,t22)]),.n 24 (.call ⟨.value t11,#[t13,t23],#[3,131]⟩),.n 25 (.unOp .not 4 t24)]) (.c t25 .r .s))) (.R [Wm 9 t3,Wb 10 .add 3 t9 (Wk 2),Wa 3 t10])))))):=by kernel_rfl
theorem w150:Tryz.f150.body.map (Qq C)=some (.q (.R [Wv 5 70]) (.q (.R [Wm 9 t0,Wm 10 t1,Wl 11 68 t2,Wc 12 129 #[t9,t10,t11] #[4,68,68],Wm 8 t12,We 13 t8 0,We 14 t8 1,Wv 6 70,Ws 70 t6 t13,Wa 7 t14]) (.q (.R [Wl 15 70 t6,Ws 70 t5 t15]) .r))):=by kernel_rfl
theorem w158:Tryz.f158.body.map (Qq C)=some (.q (.R [Wa 4 (.const (.slice none 0 0))]) (.q (.R [Wm 8 t0,Wc 9 156 #[t8] #[68],Wm 10 t1,Wc 11 156 #[t10] #[68],Wa 0 t9,Wa 1 t11]) (.q (.b 0 (.l (.q (.q (.R [Wm 12 t1,Wn 13 t12 68,Wb 14 .gtr 3 t13 (Wk 0)]) (.c t14 .s (.x 0))) (.b 1 (.q (.R [Wm 16 t0,Wm 17 t1,Wc 18 191 #[t16,t17] #[68,68],Wm 15 t18,We 19 t15 0,We 20 t15 1,We 21 t15 2,Wa 5 t19,Wa 6 t20,Wa 7 t21]) (.R [Wm 22 t1,Wm 23 t6,Wa 0 t22,Wa 1 t23])))))) (.q (.R [Wm 24 t0,Wa 4 t24]) .r)))):=by kernel_rfl
theorem w166:Tryz.f166.body.map (Qq C)=some (.q (.R [Wl 4 31 t1,Wn 5 t4 31,Wb 6 .sub 3 t5 (Wk 1),Wa 3 t6]) (.b 0 (.l (.q (.q (.R [Wm 7 t3,Wb 8 .geq 3 t7 (Wk 0)]) (.c t8 .s (.x 0))) (.q (.b 1 (.q (.R [Wm 11 t0,Wm 12 t3,Wl 13 31 t1,Wm 14 t3,Wi 15 31 t13 t14,Wl 16 3 t15,.n 17 (.call ⟨.value t11,#[t12,t16],#[3,3]⟩),.n 18 (.unOp .not 4 t17)]) (.c t18 .r .s))) (.R [Wm 9 t3,Wb 10 .sub 3 t9 (Wk 1),Wa 3 t10])))))):=by kernel_rfl
theorem w174:Tryz.f174.body.map (Qq C)=some (.q (.R [Wa 2 Wo]) (.q (.R [Wm 3 t0,Wn 4 t3 23,Wb 5 .leq 3 t4 (Wk 4),Wm 6 t5,.g (some 7) (.move t0) 6 true,.g (some 8) (.move t0) 6 true,.g (some 9) (.call ⟨.builtin .len,#[t8],#[23]⟩) 6 true,.g (some 10) (.call ⟨.value (.func 90),#[t7,t9],#[23,3]⟩) 6 true,.g (some 11) (.binOp .eql 36 t10 (Wk 0) 36) 6 true,.n 12 (.pick t6 t11 Wo),Wa 2 t12]) .r)):=by kernel_rfl
theorem w182:Tryz.f182.body.map (Qq C)=some (.q (.R [Wa 4 (.const (.slice none 0 0))]) (.q (.R [Wv 5 68]) (.q (.R [Wv 6 189,Ws 189 t6 (.const (.int .u64 0))]) (.q (.R [.n 9 (.makeFunc (.func 201) #[] #[t5,t6]),Wa 7 t9]) (.q (.q (.R [Wm 10 t0,Wm 11 (Wk 0)]) (.b 0 (.l (.q (.R [Wb 12 .lss 3 t11 t10]) (.q (.c t12 .s (.x 0)) (.q (.b 1 (.q (.R [Wm 13 t11,Wa 8 t13]) (.P [Wm 14 t7,Wm 15 t1,Wm 16 t8,.n 17 (.call ⟨.value t15,#[t16],#[3]⟩),Wl 18 189 t6,Wb 19 .add 189 t17 t18] [.n 20 (.call ⟨.value t14,#[t19],#[189]⟩)]))) (.R [Wb 21 .add 3 t11 (Wk 1),Wm 11 t21]))))))) (.q (.b 2 (.l (.q (.q (.R [Wl 22 189 t6,Wb 23 .gtr 189 t22 (.const (.int .u64 0))]) (.c t23 .s (.x 2))) (.b 3 (.R [Wm 24 t7,Wl 25 189 t6,.n 26 (.call ⟨.value t24,#[t25],#[189]⟩)]))))) (.q (.D true [Wl 27 68 t5,Wl 28 68 t5,Wc 29 189 #[t28] #[68],.n 30 (.slice 68 t27 none (some t29) none),Wa 4 t30]) .r))))))):=by kernel_rfl
theorem w190:Tryz.f190.body.map (Qq C)=some (.q (.R [Wa 2 (Wk 0)]) (.q (.q (.R [Wm 3 t0,Wb 4 .geq 162 t3 (.const (.int .u32 65536))]) (.c t4 (.q (.R [Wm 5 t0,.n 6 (.binOp .shr 162 t5 (.const (.int .u64 16)) 191),Wa 0 t6]) (.R [Wa 2 (Wk 16)])) .s)) (.q (.q (.R [Wm 7 t0,Wb 8 .geq 162 t7 (.const (.int .u32 256))]) (.c t8 (.q (.R [Wm 9 t0,.n 10 (.binOp .shr 162 t9 (.const (.int .u64 8)) 191),Wa 0 t10]) (.R [Wm 11 t2,Wb 12 .add 3 t11 (Wk 8),Wa 2 t12])) .s)) (.q (.R [Wm 13 t2,Wm 14 t0,.n 15 (.convert 162 5 t14),.n 16 (.index 9 (.const (.string { data:=(([0,1,2,2,3,3,3,3,4,4,4,4,4,4,4,4,5,5,5,5,5,5,5,5,5,5,5,5,5,5,5,5,6,6,6,6,6,6,6,6,6,6,6,6,6,6,6,6,6,6,6,6,6,6,6,6,6,6,6,6,6,6,6,6].append [7,7,7,7,7,7,7,7,7,7,7,7,7,7,7,7,7,7,7,7,7,7,7,7,7,7,7,7,7,7,7,7,7,7,7,7,7,7,7,7,7,7,7,7,7,7,7,7,7,7,7,7,7,7,7,7,7,7,7,7,7,7,7,7]).append ([8,8,8,8,8,8,8,8,8,8,8,8,8,8,8,8,8,8,8,8,8,8,8,8,8,8,8,8,8,8,8,8,8,8,8,8,8,8,8,8,8,8,8,8,8,8,8,8,8,8,8,8,8,8,8,8,8,8,8,8,8,8,8,8].append [8,8,8,8,8,8,8,8,8,8,8,8,8,8,8,8,8,8,8,8,8,8,8,8,8,8,8,8,8,8,8,8,8,8,8,8,8,8,8,8,8,8,8,8,8,8,8,8,8,8,8,8,8,8,8,8,8,8,8,8,8,8,8,8])).toArray })) t15),.n 17 (.convert 5 3 t16),Wb 18 .add 3 t13 t17,Wa 2 t18]) .r)))):=by kernel_rfl
theorem w198:Tryz.f198.body.map (Qq C)=some (.q (.R [Wa 3 Wo]) (.q (.D true [Wm 4 t0,Wn 5 t4 23,Wb 6 .eql 3 t5 (Wk 1),Wm 7 t6,.g (some 8) (.move t0) 7 true,.g (some 9) (.indexAddr 23 t8 (Wk 0)) 7 true,.g (some 10) (.load 3 t9) 7 true,.g (some 11) (.binOp .geq 3 t10 (Wk 0) 3) 7 true,.n 12 (.pick t7 t11 Wo),Wm 13 t12,.g (some 14) (.move t0) 13 true,.g (some 15) (.indexAddr 23 t14 (Wk 0)) 13 true,.g (some 16) (.load 3 t15) 13 true,.g (some 17) (.load 3 t1) 13 true,.g (some 18) (.binOp .leq 3 t16 t17 3) 13 true,.n 19 (.pick t13 t18 Wo),Wa 3 t19]) .r)):=by kernel_rfl
theorem w206:Tryz.f206.body.map (Qq C)=some (.q (.R [Wa 4 (.const (.int .u64 0))]) (.sc (.q (.R [Wm 9 t1,Wn 10 t9 67,Wa 5 t10]) (.q (.D true [Wm 11 t0,Wm 12 t5,Wi 13 67 t11 t12,Wl 14 162 t13,.n 15 (.convert 162 189 t14),.n 16 (.binOp .shl 189 t15 (.const (.int .u64 32)) 191),Wm 17 t0,Wm 18 t5,Wb 19 .sub 3 t18 (Wk 1),Wi 20 67 t17 t19,Wl 21 162 t20,.n 22 (.convert 162 189 t21),Wb 23 .or 189 t16 t22,Wa 6 t23]) (.q (.D true [Wm 24 t6,Wm 25 t1,Wm 26 t5,Wb 27 .sub 3 t26 (Wk 1),Wi 28 67 t25 t27,Wl 29 162 t28,.n 30 (.convert 162 189 t29),Wb 31 .quo 189 t24 t30,Wm 32 t6,Wm 33 t1,Wm 34 t5,Wb 35 .sub 3 t34 (Wk 1),Wi 36 67 t33 t35,Wl 37 162 t36,.n 38 (.convert 162 189 t37),Wb 39 .rem 189 t32 t38,Wa 7 t31,Wa 8 t39]) (.q (.lb 0) (.q (.b 0 (.l (.q (.q (.D true [Wm 40 t7,.n 41 (.binOp .shr 189 t40 (.const (.int .u64 32)) 191),Wb 42 .gtr 189 t41 (.const (.int .u64 0)),Wm 43 t42,.g (some 44) (.move t7) 43 false,.g (some 45) (.move t1) 43 false,.g (some 46) (.move t5) 43 false,.g (some 47) (.binOp .sub 3 t46 (Wk 2) 3) 43 false,.g (some 48) (.indexAddr 67 t45 t47) 43 false,.g (some 49) (.load 162 t48) 43 false,.g (some 50) (.convert 162 189 t49) 43 false,.g (some 51) (.binOp .mul 189 t44 t50 189) 43 false,.g (some 52) (.move t8) 43 false,.g (some 53) (.binOp .shl 189 t52 (.const (.int .u64 32)) 191) 43 false,.g (some 54) (.move t0) 43 false,.g (some 55) (.move t5) 43 false,.g (some 56) (.binOp .sub 3 t55 (Wk 2) 3) 43 false,.g (some 57) (.indexAddr 67 t54 t56) 43 false,.g (some 58) (.load 162 t57) 43 false,.g (some 59) (.convert 162 189 t58) 43 false,.g (some 60) (.binOp .or 189 t53 t59 189) 43 false,.g (some 61) (.binOp .gtr 189 t51 t60 189) 43 false,.n 62 (.pick t43 Wt t61)]) (.c t62 .s (.x 0))) (.b 1 (.q (.R [Wm 63 t7,Wb 64 .sub 189 t63 (.const (.int .u64 1)),Wa 7 t64]) (.q (.R [Wm 65 t8,Wm 66 t1,Wm 67 t5,Wb 68 .sub 3 t67 (Wk 1),Wi 69 67 t66 t68,Wl 70 162 t69,.n 71 (.convert 162 189 t70),Wb 72 .add 189 t65 t71,Wa 8 t72]) (.q (.R [Wm 73 t8,.n 74 (.binOp .shr 189 t73 (.const (.int .u64 32)) 191),Wb 75 .gtr 189 t74 (.const (.int .u64 0))]) (.c t75 (.x 0) .s)))))))) (.q (.R [Wm 76 t7,Wa 4 t76]) .r)))))))):=by kernel_rfl
theorem w221:Tryz.f221.body.map (Qq C)=some (.q (.R [Wa 4 (.const (.int .u64 0))]) (.q (.R [Wm 5 t0,Wl 6 3 t1,Wb 7 .quo 3 t6 (Wk 32),Wb 8 .sub 3 t5 t7,Wa 0 t8]) (.q (.q (.R [Wm 9 t0,Wb 10 .lss 3 t9 (Wk 0)]) (.c t10 (.q (.R [Wa 4 (.const (.int .u64 0))]) .r) .s)) (.q (.D true [Wl 11 68 t2,Wm 12 t0,Wc 13 184 #[t11,t12] #[68,3],.n 14 (.binOp .shl 189 t13 (.const (.int .u64 32)) 191),Wl 15 68 t2,Wm 16 t0,Wb 17 .sub 3 t16 (Wk 1),Wc 18 184 #[t15,t17] #[68,3],Wb 19 .or 189 t14 t18,Wl 20 3 t1,Wb 21 .rem 3 t20 (Wk 32),.n 22 (.binOp .shl 189 t19 t21 3),.n 23 (.binOp .shr 189 t22 (.const (.int .u64 32)) 191),Wb 24 .and 189 t23 (.const (.int .u64 4294967295)),Wa 4 t24]) .r)))):=by kernel_rfl
theorem w7:Tryz.f7.body.map (Qq C)=some (.q (.R [Wa 2 (Wk 0)]) (.q (.q (.R [Wm 5 t0,Wc 6 6 #[t5] #[23],Wb 7 .neq 3 t6 (Wk 0)]) (.c t7 (.q (.R [Wa 2 (Wk 0)]) .r) .s)) (.q (.R [Wa 3 (Wk 1)]) (.q (.q (.R [Wa 4 (Wk 0)]) (.b 0 (.l (.q (.q (.R [Wm 8 t4,Wm 9 t0,Wn 10 t9 23,Wb 11 .lss 3 t8 t10]) (.c t11 .s (.x 0))) (.q (.b 1 (.R [Wm 14 t3,Wm 15 t0,Wm 16 t4,Wi 17 23 t15 t16,Wl 18 3 t17,Wb 19 .mul 3 t14 t18,Wa 3 t19])) (.R [Wm 12 t4,Wb 13 .add 3 t12 (Wk 1),Wa 4 t13])))))) (.q (.R [Wm 20 t3,Wa 2 t20]) .r))))):=by kernel_rfl
theorem w15:Tryz.f15.body.map (Qq C)=some (.q (.R [Wa 4 Wo]) (.q (.q (.R [Wa 5 (Wk 0)]) (.b 0 (.l (.q (.q (.R [Wm 10 t5,Wm 11 t1,Wn 12 t11 23,Wb 13 .lss 3 t10 t12]) (.c t13 .s (.x 0))) (.q (.b 1 (.q (.R [Wm 16 t1,Wm 17 t5,Wi 18 23 t16 t17,Wl 19 3 t18,Wb 20 .gtr 3 t19 (Wk 2147483647),Wm 21 t20,.g (some 22) (.move t1) 21 false,.g (some 23) (.move t5) 21 false,.g (some 24) (.indexAddr 23 t22 t23) 21 false,.g (some 25) (.load 3 t24) 21 false,.g (some 26) (.binOp .lss 3 t25 (.const (.int .i64 (-2147483647))) 3) 21 false,.n 27 (.pick t21 Wt t26)]) (.c t27 (.q (.R [Wa 4 Wo]) .r) .s))) (.R [Wm 14 t5,Wb 15 .add 3 t14 (Wk 1),Wa 5 t15])))))) (.q (.q (.R [Wm 28 t0]) (.b 2 (.q (.R [Wb 30 .eql 22 t28 (Wk 6),Wa 29 t30]) (.c t29 (.q (.R [Wm 31 t1,Wn 32 t31 23,Wb 33 .eql 3 t32 (Wk 1),Wm 34 t33,.g (some 35) (.move t1) 34 true,.g (some 36) (.indexAddr 23 t35 (Wk 0)) 34 true,.g (some 37) (.load 3 t36) 34 true,.g (some 38) (.binOp .geq 3 t37 (Wk 0) 3) 34 true,.n 39 (.pick t34 t38 Wo),Wm 40 t39,.g (some 41) (.move t1) 40 true,.g (some 42) (.indexAddr 23 t41 (Wk 0)) 40 true,.g (some 43) (.load 3 t42) 40 true,.g (some 44) (.binOp .leq 3 t43 (Wk 16) 3) 40 true,.n 45 (.pick t40 t44 Wo),Wa 4 t45]) .r) (.q (.R [Wb 47 .eql 22 t28 (Wk 9),Wa 46 t47]) (.c t46 (.q (.D true [Wm 48 t1,Wn 49 t48 23,Wb 50 .eql 3 t49 (Wk 2),Wm 51 t50,.g (some 52) (.move t1) 51 true,.g (some 53) (.indexAddr 23 t52 (Wk 1)) 51 true,.g (some 54) (.load 3 t53) 51 true,.g (some 55) (.binOp .geq 3 t54 (Wk 1) 3) 51 true,.n 56 (.pick t51 t55 Wo),Wm 57 t56,.g (some 58) (.move t1) 57 true,.g (some 59) (.indexAddr 23 t58 (Wk 0)) 57 true,.g (some 60) (.load 3 t59) 57 true,.g (some 61) (.move t1) 57 true,.g (some 62) (.indexAddr 23 t61 (Wk 1)) 57 true,.g (some 63) (.load 3 t62) 57 true,.g (some 64) (.call ⟨.value (.func 46),#[t60,t63],#[3,3]⟩) 57 true,.g (some 65) (.unOp .not 4 t64) 57 true,.n 66 (.pick t57 t65 Wo),Wa 4 t66]) .r) (.q (.R [Wb 68 .eql 22 t28 (Wk 11),Wa 67 t68]) (.c t67 (.q (.q (.R [Wa 6 (Wk 0)]) (.b 3 (.l (.q (.q (.R [Wm 69 t6,Wm 70 t1,Wn 71 t70 23,Wb 72 .lss 3 t69 t71]) (.c t72 .s (.x 3))) (.q (.b 4 (.q (.q (.R [Wm 75 t1,Wm 76 t6,Wi 77 23 t75 t76,Wl 78 3 t77,Wb 79 .lss 3 t78 (Wk 0),Wm 80 t79,.g (some 81) (.move t1) 80 false,.g (some 82) (.move t6) 80 false,.g (some 83) (.indexAddr 23 t81 t82) 80 false,.g (some 84) (.load 3 t83) 80 false,.g (some 85) (.move t1) 80 false,.g (some 86) (.call ⟨.builtin .len,#[t85],#[23]⟩) 80 false,.g (some 87) (.binOp .geq 3 t84 t86 3) 80 false,.n 88 (.pick t80 Wt t87)]) (.c t88 (.q (.R [Wa 4 Wo]) .r) .s)) (.q (.R [Wa 7 (Wk 0)]) (.b 5 (.l (.q (.q (.R [Wm 89 t7,Wm 90 t6,Wb 91 .lss 3 t89 t90]) (.c t91 .s (.x 5))) (.q (.b 6 (.q (.D true [Wm 94 t1,Wm 95 t7,Wi 96 23 t94 t95,Wl 97 3 t96,Wm 98 t1,Wm 99 t6,Wi 100 23 t98 t99,Wl 101 3 t100,Wb 102 .eql 3 t97 t101]) (.c t102 (.q (.R [Wa 4 Wo]) .r) .s))) (.R [Wm 92 t7,Wb 93 .add 3 t92 (Wk 1),Wa 7 t93])))))))) (.R [Wm 73 t6,Wb 74 .add 3 t73 (Wk 1),Wa 6 t74])))))) (.q (.R [Wm 103 t1,Wn 104 t103 23,Wb 105 .leq 3 t104 (Wk 4),Wa 4 t105]) .r)) (.q (.q (.R [Wb 107 .eql 22 t28 (Wk 12),Wa 106 t107]) (.c t106 .s (.R [Wb 108 .eql 22 t28 (Wk 13),Wa 106 t108]))) (.c t106 (.q (.R [Wm 109 t1,Wc 110 6 #[t109] #[23],Wb 111 .eql 3 t110 (Wk 0),Wa 4 t111]) .r) (.q (.q (.R [Wb 113 .eql 22 t28 (Wk 14),Wa 112 t113]) (.c t112 .s (.R [Wb 114 .eql 22 t28 (Wk 20),Wa 112 t114]))) (.c t112 (.q (.q (.R [Wa 8 (Wk 0)]) (.b 7 (.l (.q (.q (.R [Wm 115 t8,Wm 116 t1,Wn 117 t116 23,Wb 118 .lss 3 t115 t117]) (.c t118 .s (.x 7))) (.q (.b 8 (.q (.D true [Wm 121 t1,Wm 122 t8,Wi 123 23 t121 t122,Wl 124 3 t123,Wb 125 .lss 3 t124 (Wk 0),Wm 126 t125,.g (some 127) (.move t1) 126 false,.g (some 128) (.move t8) 126 false,.g (some 129) (.indexAddr 23 t127 t128) 126 false,.g (some 130) (.load 3 t129) 126 false,.g (some 131) (.binOp .gtr 3 t130 (Wk 3) 3) 126 false,.n 132 (.pick t126 Wt t131),Wm 133 t132,.g (some 134) (.move t8) 133 false,.g (some 135) (.binOp .gtr 3 t134 (Wk 0) 3) 133 false,.g (some 136) (.move t135) 133 false,.g (some 137) (.move t1) 136 true,.g (some 138) (.move t8) 136 true,.g (some 139) (.indexAddr 23 t137 t138) 136 true,.g (some 140) (.load 3 t139) 136 true,.g (some 141) (.move t1) 136 true,.g (some 142) (.move t8) 136 true,.g (some 143) (.binOp .sub 3 t142 (Wk 1) 3) 136 true,.g (some 144) (.indexAddr 23 t141 t143) 136 true,.g (some 145) (.load 3 t144) 136 true,.g (some 146) (.binOp .leq 3 t140 t145 3) 136 true,.g (some 147) (.pick t136 t146 Wo) 133 false,.n 148 (.pick t133 Wt t147)]) (.c t148 (.q (.R [Wa 4 Wo]) .r) .s))) (.R [Wm 119 t8,Wb 120 .add 3 t119 (Wk 1),Wa 8 t120])))))) (.q (.R [Wa 4 Wt]) .r)) (.q (.q (.R [Wb 150 .eql 22 t28 (Wk 15),Wa 149 t150]) (.c t149 .s (.R [Wb 151 .eql 22 t28 (Wk 16),Wa 149 t151]))) (.c t149 (.q (.q (.R [Wm 152 t1,Wn 153 t152 23,Wb 154 .rem 3 t153 (Wk 2),Wb 155 .eql 3 t154 (Wk 1),Wm 156 t155,.g (some 157) (.move t1) 156 false,.g (some 158) (.call ⟨.builtin .len,#[t157],#[23]⟩) 156 false,.g (some 159) (.binOp .gtr 3 t158 (Wk 8) 3) 156 false,.n 160 (.pick t156 Wt t159)]) (.c t160 (.q (.R [Wa 4 Wo]) .r) .s)) (.q (.q (.R [Wa 9 (Wk 0)]) (.b 9 (.l (.q (.q (.R [Wm 161 t9,Wm 162 t1,Wn 163 t162 23,Wb 164 .lss 3 t161 t163]) (.c t164 .s (.x 9))) (.q (.b 10 (.q (.D true [Wm 167 t1,Wm 168 t9,Wi 169 23 t167 t168,Wl 170 3 t169,Wb 171 .lss 3 t170 (Wk 0),Wm 172 t171,.g (some 173) (.move t1) 172 false,.g (some 174) (.move t9) 172 false,.g (some 175) (.binOp .add 3 t174 (Wk 1) 3) 172 false,.g (some 176) (.indexAddr 23 t173 t175) 172 false,.g (some 177) (.load 3 t176) 172 false,.g (some 178) (.binOp .lss 3 t177 (Wk 0) 3) 172 false,.n 179 (.pick t172 Wt t178),Wm 180 t179,.g (some 181) (.move t0) 180 false,.g (some 182) (.binOp .eql 22 t181 (Wk 15) 22) 180 false,.g (some 183) (.move t182) 180 false,.g (some 184) (.move t1) 183 true,.g (some 185) (.move t9) 183 true,.g (some 186) (.binOp .add 3 t185 (Wk 1) 3) 183 true,.g (some 187) (.indexAddr 23 t184 t186) 183 true,.g (some 188) (.load 3 t187) 183 true,.g (some 189) (.move t1) 183 true,.g (some 190) (.move t9) 183 true,.g (some 191) (.indexAddr 23 t189 t190) 183 true,.g (some 192) (.load 3 t191) 183 true,.g (some 193) (.binOp .leq 3 t188 t192 3) 183 true,.g (some 194) (.pick t183 t193 Wo) 180 false,.n 195 (.pick t180 Wt t194)]) (.c t195 (.q (.R [Wa 4 Wo]) .r) .s))) (.R [Wm 165 t9,Wb 166 .add 3 t165 (Wk 2),Wa 9 t166])))))) (.q (.R [Wa 4 Wt]) .r))) (.q (.R [Wb 197 .eql 22 t28 (Wk 17),Wa 196 t197]) (.c t196 (.q (.R [Wm 198 t1,Wn 199 t198 23,Wb 200 .eql 3 t199 (Wk 1),Wm 201 t200,.g (some 202) (.move t1) 201 true,.g (some 203) (.indexAddr 23 t202 (Wk 0)) 201 true,.g (some 204) (.load 3 t203) 201 true,.g (some 205) (.binOp .geq 3 t204 (Wk 0) 3) 201 true,.n 206 (.pick t201 t205 Wo),Wm 207 t206,.g (some 208) (.move t1) 207 true,.g (some 209) (.indexAddr 23 t208 (Wk 0)) 207 true,.g (some 210) (.load 3 t209) 207 true,.g (some 211) (.binOp .leq 3 t210 (Wk 3) 3) 207 true,.n 212 (.pick t207 t211 Wo),Wa 4 t212]) .r) .s)))))))))))))))) (.q (.R [Wm 213 t1,Wn 214 t213 23,Wb 215 .eql 3 t214 (Wk 0),Wa 4 t215]) .r)))):=by kernel_rfl
theorem w23:Tryz.f23.body.map (Qq C)=some (.q (.R [.n 4 (.box 25 t1),Wa 6 (.const (.slice none 0 0))]) (.q (.R [Wf 12 25 t4 2,Wl 13 23 t12,Wc 14 54 #[t13] #[23],Wa 7 t14]) (.q (.R [Wf 16 25 t4 0,Wl 17 22 t16,Wc 18 48 #[t17] #[22],Wm 15 t18,We 19 t15 0,We 20 t15 1,Wv 8 82,Ws 82 t8 t19,Wa 9 t20]) (.q (.q (.R [Wm 21 t0,Wl 22 25 t4,Wc 23 20 #[t21,t22] #[3,25],Wb 24 .neq 36 t23 (Wk 0),Wm 25 t24,.g (some 26) (.move t7) 25 false,.g (some 27) (.call ⟨.builtin .len,#[t26],#[23]⟩) 25 false,.g (some 28) (.binOp .gtr 3 t27 (Wk 0) 3) 25 false,.n 29 (.pick t25 Wt t28),Wm 30 t29,.g (some 31) (.move t0) 30 false,.g (some 32) (.fieldAddr 82 t8 7) 30 false,.g (some 33) (.load 3 t32) 30 false,.g (some 34) (.binOp .gtr 3 t31 t33 3) 30 false,.n 35 (.pick t30 Wt t34)]) (.c t35 (.q (.R [Wm 36 t7,Wa 6 t36]) .r) .s)) (.q (.R [Wa 10 (Wk 0)]) (.q (.q (.R [Wm 37 t2,Wn 38 t37 23,Wb 39 .gtr 3 t38 (Wk 0),Wm 40 t39,.g (some 41) (.move t2) 40 true,.g (some 42) (.indexAddr 23 t41 (Wk 0)) 40 true,.g (some 43) (.load 3 t42) 40 true,.g (some 44) (.binOp .geq 3 t43 (Wk 0) 3) 40 true,.n 45 (.pick t40 t44 Wo),Wm 46 t45,.g (some 47) (.move t2) 46 true,.g (some 48) (.indexAddr 23 t47 (Wk 0)) 46 true,.g (some 49) (.load 3 t48) 46 true,.g (some 50) (.binOp .leq 3 t49 (Wk 4) 3) 46 true,.n 51 (.pick t46 t50 Wo)]) (.c t51 (.R [Wm 52 t2,Wi 53 23 t52 (Wk 0),Wl 54 3 t53,Wa 10 t54]) .s)) (.q (.q (.R [Wf 55 25 t4 0,Wl 56 22 t55]) (.b 0 (.q (.R [Wb 67 .eql 22 t56 (Wk 6),Wa 66 t67]) (.c t66 (.R [Wm 68 t7,.n 69 (.buildSlice 23 1 #[(0,Wk 2)]),.n 70 (.call ⟨.builtin .append,#[t68,t69],#[23,23]⟩),Wa 7 t70]) (.q (.R [Wb 72 .eql 22 t56 (Wk 17),Wa 71 t72]) (.c t71 (.R [Wm 73 t7,.n 74 (.buildSlice 23 1 #[(0,Wk 0)]),.n 75 (.call ⟨.builtin .append,#[t73,t74],#[23,23]⟩),Wa 7 t75]) (.q (.R [Wm 57 t10,Wm 58 (Wk 0)]) (.b 1 (.l (.q (.R [Wb 59 .lss 3 t58 t57]) (.q (.c t59 .s (.x 1)) (.q (.b 2 (.q (.R [Wm 60 t58,Wa 11 t60]) (.R [Wm 61 t7,Wm 62 t11,.n 63 (.buildSlice 23 1 #[(0,t62)]),.n 64 (.call ⟨.builtin .append,#[t61,t63],#[23,23]⟩),Wa 7 t64]))) (.R [Wb 65 .add 3 t58 (Wk 1),Wm 58 t65]))))))))))))) (.q (.q (.R [Wf 76 25 t4 0,Wl 77 22 t76,Wb 78 .eql 22 t77 (Wk 11)]) (.c t78 (.R [Wm 79 t7,Wc 80 67 #[t79] #[23]]) .s)) (.q (.R [Wm 81 t7,Wa 6 t81]) .r))))))))):=by kernel_rfl
theorem w31:Tryz.f31.body.map (Qq C)=some (.q (.R [.n 1 (.box 34 t0),Wv 2 34,Wa 3 (Wk 0)]) (.q (.R [Wl 4 34 t1,Wc 5 74 #[t4,.func 79] #[34,106],We 6 t5 0,We 7 t5 1,Ws 34 t2 t6,Wa 3 t7]) .r)):=by kernel_rfl
theorem w39:Tryz.f39.body.map (Qq C)=some (.q (.R [.n 2 (.box 34 t0),Wv 4 34,Wa 5 (Wk 0)]) (.q (.q (.R [Wl 7 34 t2,Wm 8 t1,Wc 9 93 #[t7,t8] #[34,31],Wa 6 t9]) (.q (.R [Wm 10 t6,Wb 11 .neq 36 t10 (Wk 0)]) (.c t11 (.q (.R [.n 12 (.build 34 #[]),Wm 13 t6,Ws 34 t4 t12,Wa 5 t13]) .r) .s))) (.q (.R [Wm 14 t1,Wf 15 34 t2 1,Wl 16 32 t15,Wc 17 94 #[t14,t16] #[31,32],We 18 t17 0,We 19 t17 1,Ws 34 t4 t18,Wa 5 t19]) .r))):=by kernel_rfl
theorem w47:Tryz.f47.body.map (Qq C)=some (.q (.R [Wa 2 (.const (.slice none 0 0))]) (.q (.q (.R [Wm 3 t0,Wb 4 .lss 3 t3 (Wk 0)]) (.c t4 (.q (.R [Wm 5 t0,Wb 6 .add 3 t5 (Wk 1),.n 7 (.unOp .neg 3 t6),Wc 8 108 #[t7] #[3],.n 9 (.buildSlice 54 1 #[(0,Wk 1)]),Wc 10 107 #[t8,t9] #[54,54],Wa 2 t10]) .r) .s)) (.q (.R [Wm 11 t0,Wc 12 108 #[t11] #[3],Wa 2 t12]) .r))):=by kernel_rfl
theorem w55:Tryz.f55.body.map (Qq C)=some (.q (.R [Wa 4 (.const (.slice none 0 0)),Wa 5 (Wk 0)]) (.q (.q (.R [Wm 6 t0,.n 7 (.unOp .not 4 t6)]) (.c t7 (.q (.R [Wa 4 (.const (.slice none 0 0)),Wa 5 (Wk 13)]) .r) .s)) (.q (.R [Wm 8 t1,Wa 4 t8,Wa 5 (Wk 0)]) .r))):=by kernel_rfl
theorem w63:Tryz.f63.body.map (Qq C)=some (.q (.R [.n 3 (.box 31 t0),.n 5 (.box 98 t2),Wv 6 31,Wv 7 36]) (.q (.q (.R [Wm 13 t1,Wn 14 t13 23,Wl 15 31 t3,Wn 16 t15 31,Wb 17 .mul 3 (Wk 2) t16,Wb 18 .neq 3 t14 t17]) (.c t18 (.q (.R [Ws 31 t6 (.const (.slice none 0 0)),Ws 36 t7 (Wk 13)]) .r) .s)) (.q (.R [.n 19 (.buildSlice 31 0 #[]),Wv 8 31,Ws 31 t8 t19]) (.q (.q (.R [Wm 20 t1,Wc 21 116 #[t20] #[23]]) (.b 0 (.f t21 #[22,23] (.q (.R [Wa 9 t22]) (.R [Wa 10 t23])) (.b 1 (.q (.U [Wl 25 98 t5,Wl 26 31 t3,Wl 27 31 t8,Wn 28 t27 31,Wi 29 31 t26 t28,Wl 30 3 t29,Wm 31 t9,Wm 32 t10,.n 33 (.call ⟨.value t25,#[t30,t31,t32],#[3,3,3]⟩),Wm 24 t33,We 34 t24 0,We 35 t24 1,Wa 11 t34,Wa 12 t35]) (.q (.q (.R [Wm 36 t12,.n 37 (.unOp .not 4 t36)]) (.c t37 (.q (.R [Ws 31 t6 (.const (.slice none 0 0)),Ws 36 t7 (Wk 13)]) .r) .s)) (.R [Wl 38 31 t8,Wm 39 t11,.n 40 (.buildSlice 31 1 #[(0,t39)]),.n 41 (.call ⟨.builtin .append,#[t38,t40],#[31,31]⟩),Ws 31 t8 t41]))))))) (.q (.R [Wl 42 31 t8,Wc 43 113 #[t42] #[31],We 44 t43 0,We 45 t43 1,Ws 31 t6 t44,Ws 36 t7 t45]) .r))))):=by kernel_rfl
theorem w71:Tryz.f71.body.map (Qq C)=some (.q (.R [.n 2 (.box 70 t0),.n 3 (.box 70 t1),Wv 4 70]) (.q (.R [Wl 5 70 t2,Wl 6 70 t3,.n 7 (.build 147 #[(0,Wt)]),.n 8 (.makeFunc (.func 120) #[t7] #[]),Wc 9 119 #[t5,t6,t8] #[70,70,106],Ws 70 t4 t9]) .r)):=by kernel_rfl
theorem w79:Tryz.f79.body.map (Qq C)=some (.q (.R [.n 1 (.box 70 t0),Wv 2 70]) (.q (.q (.R [Wl 3 70 t1,Wc 4 80 #[t3] #[70],Wb 5 .lss 3 t4 (Wk 0)]) (.c t5 (.q (.R [Wc 6 81 #[Wk 0] #[2],Ws 70 t2 t6]) .r) .s)) (.q (.R [Wl 7 70 t1,Wc 8 82 #[t7] #[70],Ws 70 t2 t8]) .r))):=by kernel_rfl
theorem w87:Tryz.f87.body.map (Qq C)=some (.q (.R [.n 2 (.box 3 t0),.n 3 (.box 3 t1),Wa 4 (.const .nilFunc)]) (.q (.R [.n 5 (.makeFunc (.func 133) #[] #[t2,t3]),Wa 4 t5]) .r)):=by kernel_rfl
theorem w95:Tryz.f95.body.map (Qq C)=some (.q (.R [Wa 4 (.const (.slice none 0 0))]) (.q (.R [Wm 8 t0,Wl 9 31 t1,Wn 10 t9 31,Wf 11 34 t2 0,Wl 12 31 t11,Wn 13 t12 31,Wb 14 .sub 3 t10 t13,.n 15 (.slice 23 t8 (some t14) none none),Wc 16 54 #[t15] #[23],Wa 5 t16]) (.q (.q (.R [Wf 17 34 t2 0,Wl 18 31 t17,Wn 19 t18 31,Wm 20 (Wk 0)]) (.b 0 (.l (.q (.R [Wb 21 .lss 3 t20 t19]) (.q (.c t21 .s (.x 0)) (.q (.b 1 (.q (.R [Wm 22 t20,Wi 23 31 t18 t20,Wl 24 3 t23,Wa 6 t22,Wa 7 t24]) (.R [Wm 25 t5,Wm 26 t6,Wm 27 t5,Wm 28 t6,Wi 29 23 t27 t28,Wl 30 3 t29,Wm 31 t7,Wb 32 .sub 3 t31 (Wk 1),.n 33 (.call ⟨.builtin .min,#[t30,t32],#[3,3]⟩),Wi 34 23 t25 t26,Ws 3 t34 t33]))) (.R [Wb 35 .add 3 t20 (Wk 1),Wm 20 t35]))))))) (.q (.R [Wm 36 t5,Wa 4 t36]) .r)))):=by kernel_rfl
theorem w103:Tryz.f103.body.map (Qq C)=some (.q (.R [Wa 2 Wo]) (.q (.R [Wm 3 t0,Wb 4 .lss 3 t3 (Wk 0),Wa 2 t4]) .r)):=by kernel_rfl
theorem w111:Tryz.f111.body.map (Qq C)=some (.q (.R [Wa 4 (Wk 0)]) (.q (.q (.R [Wm 6 t0,Wn 7 t6 23,Wm 8 (Wk 0)]) (.b 0 (.l (.q (.R [Wb 9 .lss 3 t8 t7]) (.q (.c t9 .s (.x 0)) (.q (.b 1 (.q (.R [Wm 10 t8,Wa 5 t10]) (.q (.R [Wm 11 t1,Wm 12 t0,Wm 13 t5,Wi 14 23 t12 t13,Wl 15 3 t14,.n 16 (.call ⟨.value t11,#[t15],#[3]⟩)]) (.c t16 (.q (.R [Wm 17 t5,Wa 4 t17]) .r) .s)))) (.R [Wb 18 .add 3 t8 (Wk 1),Wm 8 t18]))))))) (.q (.R [Wa 4 (.const (.int .i64 (-1)))]) .r))):=by kernel_rfl
theorem w119:Tryz.f119.body.map (Qq C)=some (.q (.R [.n 3 (.box 70 t0),.n 4 (.box 70 t1),Wv 6 70]) (.q (.U [Wl 15 70 t3,Wc 16 82 #[t15] #[70],Wm 17 t2,Wl 18 70 t4,Wc 19 82 #[t18] #[70],.n 20 (.call ⟨.value t17,#[t19],#[70]⟩),Ws 70 t3 t16,Ws 70 t4 t20]) (.q (.D true [Wf 21 70 t3 1,Wl 22 68 t21,Wf 23 70 t4 2,Wl 24 68 t23,Wc 25 149 #[t22,t24] #[68,68],Wf 26 70 t4 1,Wl 27 68 t26,Wf 28 70 t3 2,Wl 29 68 t28,Wc 30 149 #[t27,t29] #[68,68],Wa 7 t25,Wa 8 t30]) (.q (.R [Wf 31 70 t3 2,Wl 32 68 t31,Wf 33 70 t4 2,Wl 34 68 t33,Wc 35 149 #[t32,t34] #[68,68],Wv 9 68,Ws 68 t9 t35]) (.q (.R [.n 36 (.makeFunc (.func 150) #[] #[t9]),Wa 10 t36]) (.q (.q (.R [Wf 37 70 t3 0,Wl 38 4 t37,Wf 39 70 t4 0,Wl 40 4 t39,Wb 41 .eql 4 t38 t40]) (.c t41 (.q (.U [Wm 42 t10,Wf 43 70 t3 0,Wl 44 4 t43,Wm 45 t7,Wm 46 t8,Wc 47 151 #[t45,t46] #[68,68],.n 48 (.call ⟨.value t42,#[t44,t47],#[4,68]⟩),Ws 70 t6 t48]) .r) .s)) (.q (.q (.R [Wm 50 t7,Wm 51 t8,Wc 52 152 #[t50,t51] #[68,68],Wm 49 t52,We 53 t49 0,We 54 t49 1,Wa 11 t53,Wa 12 t54]) (.q (.R [Wm 55 t12,Wb 56 .eql 36 t55 (Wk 0)]) (.c t56 (.q (.R [Wm 57 t10,Wf 58 70 t3 0,Wl 59 4 t58,Wm 60 t11,.n 61 (.call ⟨.value t57,#[t59,t60],#[4,68]⟩),Ws 70 t6 t61]) .r) .s))) (.q (.R [Wm 63 t8,Wm 64 t7,Wc 65 152 #[t63,t64] #[68,68],Wm 62 t65,We 66 t62 0,We 67 t62 1,Wa 13 t66,Wa 14 t67]) (.q (.R [Wm 68 t10,Wf 69 70 t4 0,Wl 70 4 t69,Wm 71 t13,.n 72 (.call ⟨.value t68,#[t70,t71],#[4,68]⟩),Ws 70 t6 t72]) .r))))))))):=by kernel_rfl
theorem w127:Tryz.f127.body.map (Qq C)=some (.q (.R [Wa 2 (.const (.slice none 0 0))]) (.q (.q (.R [Wm 3 t0,Wb 4 .lss 2 t3 (Wk 0)]) (.c t4 (.q (.R [Wm 5 t0,Wb 6 .add 2 t5 (Wk 1),.n 7 (.unOp .neg 2 t6),.n 8 (.convert 2 189 t7),Wb 9 .add 189 t8 (.const (.int .u64 1)),Wc 10 155 #[t9] #[189],Wa 2 t10]) .r) .s)) (.q (.R [Wm 11 t0,.n 12 (.convert 2 189 t11),Wc 13 155 #[t12] #[189],Wa 2 t13]) .r))):=by kernel_rfl
theorem w135:Tryz.f135.body.map (Qq C)=some (.q (.R [.n 2 (.box 34 t0),Wv 4 70,Wa 5 (Wk 0)]) (.q (.q (.R [Wl 9 34 t2,Wc 10 76 #[t9] #[34],Wa 6 t10]) (.q (.R [Wm 11 t6,Wb 12 .neq 36 t11 (Wk 0)]) (.c t12 (.q (.R [.n 13 (.build 70 #[]),Wm 14 t6,Ws 70 t4 t13,Wa 5 t14]) .r) .s))) (.q (.R [Wf 16 34 t2 0,Wl 17 31 t16,Wm 18 t1,Wc 19 99 #[t17,t18] #[31,23],Wm 15 t19,We 20 t15 0,We 21 t15 1,Wa 7 t20,Wa 8 t21]) (.q (.q (.R [Wm 22 t8,Wb 23 .neq 36 t22 (Wk 0)]) (.c t23 (.q (.R [.n 24 (.build 70 #[]),Wm 25 t8,Ws 70 t4 t24,Wa 5 t25]) .r) .s)) (.q (.R [Wf 26 34 t2 1,Wl 27 32 t26,Wm 28 t7,Wi 29 32 t27 t28,Wl 30 70 t29,Wc 31 82 #[t30] #[70],Ws 70 t4 t31,Wa 5 (Wk 0)]) .r))))):=by kernel_rfl
theorem w143:Tryz.f143.body.map (Qq C)=some (.q (.R [Wa 4 (Wk 0)]) (.q (.q (.R [Wm 5 t1,Wm 6 t0,Wn 7 t6 54,Wb 8 .lss 3 t5 t7]) (.c t8 (.q (.R [Wm 9 t0,Wm 10 t1,Wi 11 54 t9 t10,Wl 12 3 t11,Wa 4 t12]) .r) .s)) (.q (.R [Wa 4 (Wk 0)]) .r))):=by kernel_rfl
theorem w151:Tryz.f151.body.map (Qq C)=some (.q (.R [.n 2 (.box 68 t0),.n 3 (.box 68 t1),Wa 4 (.const (.slice none 0 0))]) (.q (.R [Wl 5 68 t2,Wn 6 t5 68,Wl 7 68 t3,Wn 8 t7 68,.n 9 (.call ⟨.builtin .max,#[t6,t8],#[3,3]⟩),.n 10 (.makeFunc (.func 183) #[] #[t2,t3]),Wc 11 182 #[t9,t10] #[3,206],Wa 4 t11]) .r)):=by kernel_rfl
theorem w159:Tryz.f159.body.map (Qq C)=some (.q (.R [Wa 3 (.const (.slice none 0 0))]) (.q (.R [Wm 4 t0,Wl 5 68 t1,Wc 6 160 #[t4,t5] #[68,68],Wa 3 t6]) .r)):=by kernel_rfl
theorem w167:Tryz.f167.body.map (Qq C)=some (.q (.R [Wa 2 (.const (.slice none 0 0))]) (.q (.R [Wm 3 t0,Wc 4 193 #[.const (.slice none 0 0),t3] #[23,169],Wa 2 t4]) .r)):=by kernel_rfl
theorem w175:Tryz.f175.body.map (Qq C)=some (.q (.R [Wa 2 Wo]) (.q (.R [Wm 3 t0,Wc 4 21 #[t3] #[31],Wb 5 .eql 36 t4 (Wk 0),Wa 2 t5]) .r)):=by kernel_rfl
theorem w183:Tryz.f183.body.map (Qq C)=some (.q (.R [Wa 4 (.const (.int .u64 0))]) (.q (.D true [Wl 5 68 t1,Wm 6 t0,Wc 7 184 #[t5,t6] #[68,3],Wl 8 68 t2,Wm 9 t0,Wc 10 184 #[t8,t9] #[68,3],Wb 11 .add 189 t7 t10,Wa 4 t11]) .r)):=by kernel_rfl
theorem w191:Tryz.f191.body.map (Qq C)=some (.q (.R [Wa 4 (.const (.slice none 0 0)),Wa 5 (.const (.slice none 0 0)),Wa 6 (Wk 0)]) (.q (.R [Wm 17 t0,Wc 18 156 #[t17] #[68],Wm 19 t1,Wc 20 156 #[t19] #[68],Wa 0 t18,Wa 1 t20]) (.q (.b 0 (.q (.R [Wm 22 t1,Wn 23 t22 68,Wb 24 .eql 3 t23 (Wk 0),Wa 21 t24]) (.c t21 (.q (.R [Wa 4 (.const (.slice none 0 0)),Wa 5 (.const (.slice none 0 0)),Wa 6 (Wk 17)]) .r) (.q (.R [Wm 26 t0,Wm 27 t1,Wc 28 185 #[t26,t27] #[68,68],Wb 29 .lss 3 t28 (Wk 0),Wa 25 t29]) (.c t25 (.q (.R [Wm 30 t0,Wa 4 (.const (.slice none 0 0)),Wa 5 t30,Wa 6 (Wk 0)]) .r) (.q (.R [Wm 32 t1,Wn 33 t32 68,Wb 34 .eql 3 t33 (Wk 1),Wa 31 t34]) (.c t31 (.q (.R [Wm 36 t0,Wm 37 t1,Wi 38 68 t37 (Wk 0),Wl 39 162 t38,Wc 40 203 #[t36,t39] #[68,162],Wm 35 t40,We 41 t35 0,We 42 t35 1,We 43 t35 2,Wa 7 t41,Wa 8 t42,Wa 9 t43]) (.q (.R [Wm 44 t7,Wm 45 t8,.n 46 (.convert 162 189 t45),Wc 47 155 #[t46] #[189],Wm 48 t9,Wa 4 t44,Wa 5 t47,Wa 6 t48]) .r)) .s))))))) (.q (.R [Wm 49 t1,Wm 50 t1,Wn 51 t50 68,Wb 52 .sub 3 t51 (Wk 1),Wi 53 68 t49 t52,Wl 54 162 t53,Wc 55 204 #[t54] #[162],Wa 10 t55]) (.q (.R [Wm 56 t1,Wm 57 t10,Wc 58 205 #[t56,t57] #[68,3],Wa 11 t58]) (.q (.R [Wm 59 t0,Wn 60 t59 68,Wb 61 .add 3 t60 (Wk 1),.n 62 (.makeSlice 67 t61 t61),Wa 12 t62]) (.q (.R [Wm 63 t12,Wm 64 t0,Wm 65 t10,Wc 66 205 #[t64,t65] #[68,3],.n 67 (.call ⟨.builtin .copy,#[t63,t66],#[67,68]⟩)]) (.q (.R [Wm 68 t0,Wn 69 t68 68,Wm 70 t11,Wn 71 t70 68,Wb 72 .sub 3 t69 t71,Wb 73 .add 3 t72 (Wk 1),.n 74 (.makeSlice 68 t73 t73),Wa 13 t74]) (.q (.q (.R [Wm 75 t13,Wn 76 t75 68,Wb 77 .sub 3 t76 (Wk 1),Wa 14 t77]) (.b 1 (.l (.q (.q (.R [Wm 78 t14,Wb 79 .geq 3 t78 (Wk 0)]) (.c t79 .s (.x 1))) (.q (.b 2 (.q (.R [Wm 82 t12,Wm 83 t14,Wm 84 t14,Wm 85 t11,Wn 86 t85 68,Wb 87 .add 3 t84 t86,Wb 88 .add 3 t87 (Wk 1),.n 89 (.slice 67 t82 (some t83) (some t88) none),Wa 15 t89]) (.q (.R [Wm 90 t15,Wm 91 t11,Wc 92 206 #[t90,t91] #[67,67],Wa 16 t92]) (.q (.q (.R [Wm 93 t15,Wm 94 t11,Wm 95 t16,Wc 96 207 #[t93,t94,t95] #[67,67,189]]) (.c t96 (.q (.R [Wm 97 t16,Wb 98 .sub 189 t97 (.const (.int .u64 1)),Wa 16 t98]) (.R [Wm 99 t15,Wm 100 t11,Wc 101 208 #[t99,t100] #[67,67]])) .s)) (.R [Wm 102 t13,Wm 103 t14,Wm 104 t16,.n 105 (.convert 189 162 t104),Wi 106 68 t102 t103,Ws 162 t106 t105]))))) (.R [Wm 80 t14,Wb 81 .sub 3 t80 (Wk 1),Wa 14 t81])))))) (.q (.R [Wm 107 t13,Wc 108 156 #[t107] #[68],Wm 109 t12,Wc 110 156 #[t109] #[68],Wm 111 t10,Wc 112 209 #[t110,t111] #[68,3],Wa 4 t108,Wa 5 t112,Wa 6 (Wk 0)]) .r)))))))))):=by kernel_rfl
theorem w199:Tryz.f199.body.map (Qq C)=some (.q (.R [Wa 3 Wo]) (.q (.q (.R [Wm 5 t0,Wn 6 t5 23,Wb 7 .rem 3 t6 (Wk 2),Wb 8 .neq 3 t7 (Wk 0),Wm 9 t8,.g (some 10) (.move t0) 9 false,.g (some 11) (.call ⟨.builtin .len,#[t10],#[23]⟩) 9 false,.g (some 12) (.binOp .gtr 3 t11 (Wk 8) 3) 9 false,.n 13 (.pick t9 Wt t12)]) (.c t13 (.q (.R [Wa 3 Wo]) .r) .s)) (.q (.q (.R [Wa 4 (Wk 0)]) (.b 0 (.l (.q (.q (.R [Wm 14 t4,Wm 15 t0,Wn 16 t15 23,Wb 17 .lss 3 t14 t16]) (.c t17 .s (.x 0))) (.q (.b 1 (.q (.U [Wl 20 78 t1,Wm 21 t0,Wm 22 t4,Wi 23 23 t21 t22,Wl 24 3 t23,Wm 25 t0,Wm 26 t4,Wb 27 .add 3 t26 (Wk 1),Wi 28 23 t25 t27,Wl 29 3 t28,.n 30 (.call ⟨.value t20,#[t24,t29],#[3,3]⟩),.n 31 (.unOp .not 4 t30)]) (.c t31 (.q (.R [Wa 3 Wo]) .r) .s))) (.R [Wm 18 t4,Wb 19 .add 3 t18 (Wk 2),Wa 4 t19])))))) (.q (.R [Wa 3 Wt]) .r)))):=by kernel_rfl
theorem w207:Tryz.f207.body.map (Qq C)=some (.q (.R [Wa 6 Wo]) (.q (.R [Wa 7 (.const (.int .u64 0)),Wa 8 (.const (.int .u32 0))]) (.q (.q (.R [Wm 12 t1,Wn 13 t12 67,Wm 14 (Wk 0)]) (.b 0 (.l (.q (.R [Wb 15 .lss 3 t14 t13]) (.q (.c t15 .s (.x 0)) (.q (.b 1 (.q (.R [Wm 16 t14,Wi 17 67 t12 t14,Wl 18 162 t17,Wa 9 t16,Wa 10 t18]) (.q (.R [Wm 19 t2,Wm 20 t10,.n 21 (.convert 162 189 t20),Wb 22 .mul 189 t19 t21,Wm 23 t7,Wb 24 .add 189 t22 t23,Wa 11 t24]) (.q (.R [Wm 25 t11,.n 26 (.binOp .shr 189 t25 (.const (.int .u64 32)) 191),Wa 7 t26]) (.R [Wm 28 t0,Wm 29 t9,Wm 30 t0,Wm 31 t9,Wi 32 67 t30 t31,Wl 33 162 t32,Wm 34 t11,.n 35 (.convert 189 162 t34),Wm 36 t8,Wc 37 222 #[t33,t35,t36] #[162,162,162],Wm 27 t37,We 38 t27 0,We 39 t27 1,Wi 40 67 t28 t29,Ws 162 t40 t38,Wa 8 t39]))))) (.R [Wb 41 .add 3 t14 (Wk 1),Wm 14 t41]))))))) (.q (.R [Wm 43 t0,Wm 44 t1,Wn 45 t44 67,Wm 46 t0,Wm 47 t1,Wn 48 t47 67,Wi 49 67 t46 t48,Wl 50 162 t49,Wm 51 t7,.n 52 (.convert 189 162 t51),Wm 53 t8,Wc 54 222 #[t50,t52,t53] #[162,162,162],Wm 42 t54,We 55 t42 0,We 56 t42 1,Wi 57 67 t43 t45,Ws 162 t57 t55,Wa 8 t56]) (.q (.R [Wm 58 t8,Wb 59 .eql 162 t58 (.const (.int .u32 1)),Wa 6 t59]) .r))))):=by kernel_rfl
theorem w222:Tryz.f222.body.map (Qq C)=some (.q (.R [Wa 6 (.const (.int .u32 0)),Wa 7 (.const (.int .u32 0))]) (.q (.R [Wm 8 t0,Wm 9 t1,Wb 10 .sub 162 t8 t9,Wm 11 t2,Wb 12 .sub 162 t10 t11,Wa 6 t12]) (.q (.R [Wm 13 t0,.n 14 (.unOp .xor 162 t13),Wm 15 t1,Wb 16 .and 162 t14 t15,Wm 17 t0,Wm 18 t1,Wb 19 .xor 162 t17 t18,.n 20 (.unOp .xor 162 t19),Wm 21 t6,Wb 22 .and 162 t20 t21,Wb 23 .or 162 t16 t22,.n 24 (.binOp .shr 162 t23 (.const (.int .u64 31)) 191),Wa 7 t24]) .r))):=by kernel_rfl
theorem w8:Tryz.f8.body.map (Qq C)=some (.q (.R [Wv 2 34]) (.q (.R [Wm 3 t0,Wc 4 19 #[Wk 1] #[3],Wc 5 18 #[t3,t4] #[23,56],Wc 6 17 #[t5] #[52],Ws 34 t2 t6]) .r)):=by kernel_rfl
theorem w16:Tryz.f16.body.map (Qq C)=some (.q (.R [Wv 6 25]) (.q (.R [Wm 7 t0,Wm 8 t1,.n 9 (.makeSlice 23 t8 t8),Wm 10 t2,.n 11 (.build 25 #[(0,t7),(1,t9),(2,t10)]),Ws 25 t6 t11]) .r)):=by kernel_rfl
theorem w24:Tryz.f24.body.map (Qq C)=some (.q (.R [.n 4 (.box 25 t1),Wa 6 (.const (.slice none 0 0))]) (.q (.q (.R [Wm 10 t0,Wl 11 25 t4,Wc 12 4 #[t10,t11] #[3,25],Wb 13 .neq 3 t12 (Wk 0),Wm 14 t13,.g (some 15) (.fieldAddr 25 t4 2) 14 false,.g (some 16) (.load 23 t15) 14 false,.g (some 17) (.call ⟨.builtin .len,#[t16],#[23]⟩) 14 false,.g (some 18) (.binOp .gtr 3 t17 (Wk 0) 3) 14 false,.n 19 (.pick t14 Wt t18),Wm 20 t19,.g (some 21) (.move t0) 20 false,.g (some 22) (.fieldAddr 25 t4 0) 20 false,.g (some 23) (.load 22 t22) 20 false,.g (some 24) (.call ⟨.value (.func 14),#[t21,t23],#[3,22]⟩) 20 false,.g (some 25) (.unOp .not 4 t24) 20 false,.n 26 (.pick t20 Wt t25)]) (.c t26 (.q (.R [Wf 27 25 t4 2,Wl 28 23 t27,Wa 6 t28]) .r) .s)) (.q (.q (.R [Wm 29 t2,Wb 30 .lss 3 t29 (Wk 0),Wm 31 t30,.g (some 32) (.move t2) 31 false,.g (some 33) (.binOp .gtr 3 t32 (Wk 4) 3) 31 false,.n 34 (.pick t31 Wt t33)]) (.c t34 (.R [Wa 2 (Wk 0)]) .s)) (.q (.R [Wa 7 (.const (.slice none 0 0))]) (.q (.q (.R [Wf 35 25 t4 0,Wl 36 22 t35]) (.b 0 (.q (.R [Wb 38 .eql 22 t36 (Wk 6),Wa 37 t38]) (.c t37 (.q (.R [.n 39 (.buildSlice 23 1 #[(0,Wk 2)]),Wa 6 t39]) .r) (.q (.R [Wb 41 .eql 22 t36 (Wk 17),Wa 40 t41]) (.c t40 (.q (.R [.n 42 (.buildSlice 23 1 #[(0,Wk 0)]),Wa 6 t42]) .r) (.q (.R [Wb 44 .eql 22 t36 (Wk 11),Wa 43 t44]) (.c t43 (.q (.q (.R [Wm 45 t2,Wb 46 .sub 3 t45 (Wk 1),Wa 8 t46]) (.b 1 (.l (.q (.q (.R [Wm 47 t8,Wb 48 .geq 3 t47 (Wk 0)]) (.c t48 .s (.x 1))) (.q (.b 2 (.R [Wm 51 t7,Wm 52 t8,.n 53 (.buildSlice 23 1 #[(0,t52)]),.n 54 (.call ⟨.builtin .append,#[t51,t53],#[23,23]⟩),Wa 7 t54])) (.R [Wm 49 t8,Wb 50 .sub 3 t49 (Wk 1),Wa 8 t50])))))) (.q (.R [Wm 55 t7,Wa 6 t55]) .r)) .s)))))))) (.q (.q (.R [Wa 9 (Wk 0)]) (.b 3 (.l (.q (.q (.R [Wm 56 t9,Wm 57 t2,Wb 58 .lss 3 t56 t57]) (.c t58 .s (.x 3))) (.q (.b 4 (.R [Wm 61 t7,Wm 62 t9,.n 63 (.buildSlice 23 1 #[(0,t62)]),.n 64 (.call ⟨.builtin .append,#[t61,t63],#[23,23]⟩),Wa 7 t64])) (.R [Wm 59 t9,Wb 60 .add 3 t59 (Wk 1),Wa 9 t60])))))) (.q (.R [Wm 65 t7,Wa 6 t65]) .r))))))):=by kernel_rfl
theorem w32:Tryz.f32.body.map (Qq C)=some (.q (.R [.n 1 (.box 34 t0),Wv 2 34,Wa 3 (Wk 0)]) (.q (.R [Wl 4 34 t1,Wc 5 74 #[t4,.func 83] #[34,106],We 6 t5 0,We 7 t5 1,Ws 34 t2 t6,Wa 3 t7]) .r)):=by kernel_rfl
theorem w40:Tryz.f40.body.map (Qq C)=some (.q (.R [.n 2 (.box 34 t0),.n 3 (.box 31 t1),Wv 4 34,Wa 5 (Wk 0)]) (.q (.q (.R [Wl 8 34 t2,Wl 9 31 t3,Wc 10 93 #[t8,t9] #[34,31],Wa 6 t10]) (.q (.R [Wm 11 t6,Wb 12 .neq 36 t11 (Wk 0)]) (.c t12 (.q (.R [.n 13 (.build 34 #[]),Wm 14 t6,Ws 34 t4 t13,Wa 5 t14]) .r) .s))) (.q (.q (.R [Wf 15 34 t2 0,Wl 16 31 t15,Wl 17 31 t3,Wc 18 58 #[t16,t17] #[31,31],Wa 7 t18]) (.q (.R [Wm 19 t7,Wb 20 .neq 36 t19 (Wk 0)]) (.c t20 (.q (.R [.n 21 (.build 34 #[]),Wm 22 t7,Ws 34 t4 t21,Wa 5 t22]) .r) .s))) (.q (.R [Wl 23 34 t2,Wl 24 31 t3,.n 25 (.makeFunc (.func 95) #[] #[t3,t2]),Wc 26 91 #[t23,t24,t25] #[34,31,88],We 27 t26 0,We 28 t26 1,Ws 34 t4 t27,Wa 5 t28]) .r)))):=by kernel_rfl
theorem w48:Tryz.f48.body.map (Qq C)=some (.q (.R [.n 1 (.box 22 t0),Wv 2 82,Wa 3 Wo]) (.q (.R [.n 4 (.makeFunc (.func 110) #[] #[t1]),Wc 5 109 #[t4] #[136],We 6 t5 0,We 7 t5 1,Ws 82 t2 t6,Wa 3 t7]) .r)):=by kernel_rfl
theorem w56:Tryz.f56.body.map (Qq C)=some (.q (.R [Wa 4 Wo]) (.q (.R [Wm 5 t0,Wm 6 t1,Wc 7 112 #[t5,t6] #[31,31],Wa 4 t7]) .r)):=by kernel_rfl
theorem w64:Tryz.f64.body.map (Qq C)=some (.q (.R [Wa 6 (Wk 0),Wa 7 Wo]) (.q (.R [Wm 8 t2,Wm 9 t1,Wb 10 .sub 3 t8 t9,Wm 11 t2,Wm 12 t0,Wb 13 .leq 3 t11 t12,Wa 6 t10,Wa 7 t13]) .r)):=by kernel_rfl
theorem w72:Tryz.f72.body.map (Qq C)=some (.q (.R [.n 2 (.box 70 t0),.n 3 (.box 70 t1),Wv 4 70]) (.q (.R [Wl 5 70 t2,Wl 6 70 t3,.n 7 (.buildSlice 32 2 #[(0,t5),(1,t6)]),Wc 8 121 #[t7] #[32],Ws 70 t4 t8]) .r)):=by kernel_rfl
theorem w80:Tryz.f80.body.map (Qq C)=some (.q (.R [.n 1 (.box 70 t0),Wa 2 (Wk 0)]) (.q (.R [Wl 3 70 t1,Wc 4 82 #[t3] #[70],Ws 70 t1 t4]) (.q (.b 0 (.q (.R [Wf 6 70 t1 1,Wl 7 68 t6,Wn 8 t7 68,Wb 9 .eql 3 t8 (Wk 0),Wa 5 t9]) (.c t5 (.q (.R [Wa 2 (Wk 0)]) .r) (.q (.R [Wf 11 70 t1 0,Wl 12 4 t11,Wa 10 t12]) (.c t10 (.q (.R [Wa 2 (.const (.int .i64 (-1)))]) .r) .s))))) (.q (.R [Wa 2 (Wk 1)]) .r)))):=by kernel_rfl
theorem w88:Tryz.f88.body.map (Qq C)=some (.q (.R [.n 3 (.box 3 t1),Wa 4 (.const (.slice none 0 0)),Wa 5 (Wk 0)]) (.q (.q (.R [Wm 10 t0,Wc 11 21 #[t10] #[31],Wa 6 t11]) (.q (.R [Wm 12 t6,Wb 13 .neq 36 t12 (Wk 0)]) (.c t13 (.q (.R [Wm 14 t6,Wa 4 (.const (.slice none 0 0)),Wa 5 t14]) .r) .s))) (.q (.q (.D true [Wl 15 3 t3,Wb 16 .lss 3 t15 (Wk 0),Wm 17 t16,.g (some 18) (.load 3 t3) 17 false,.g (some 19) (.move t0) 17 false,.g (some 20) (.call ⟨.value (.func 52),#[t19],#[23]⟩) 17 false,.g (some 21) (.binOp .geq 3 t18 t20 3) 17 false,.n 22 (.pick t17 Wt t21)]) (.c t22 (.q (.R [Wa 4 (.const (.slice none 0 0)),Wa 5 (Wk 21)]) .r) .s)) (.q (.R [Wm 23 t0,Wn 24 t23 31,.n 25 (.makeSlice 23 t24 t24),Wv 7 23,Ws 23 t7 t25]) (.q (.q (.R [Wm 26 t0,Wc 27 134 #[t26] #[31]]) (.b 0 (.f t27 #[28,29] (.q (.R [Wa 8 t28]) (.R [Wa 9 t29])) (.b 1 (.q (.D true [Wl 30 23 t7,Wm 31 t8,Wl 32 3 t3,Wm 33 t9,Wb 34 .rem 3 t32 t33,Wi 35 23 t30 t31,Ws 3 t35 t34]) (.R [Wl 36 3 t3,Wm 37 t9,Wb 38 .quo 3 t36 t37,Ws 3 t3 t38])))))) (.q (.R [Wl 39 23 t7,Wa 4 t39,Wa 5 (Wk 0)]) .r)))))):=by kernel_rfl
theorem w96:Tryz.f96.body.map (Qq C)=some (.q (.R [.n 2 (.box 34 t0),Wa 4 (Wk 0)]) (.q (.q (.R [Wl 8 34 t2,Wc 9 76 #[t8] #[34],Wa 5 t9]) (.q (.R [Wm 10 t5,Wb 11 .neq 36 t10 (Wk 0)]) (.c t11 (.q (.R [Wm 12 t5,Wa 4 t12]) .r) .s))) (.q (.q (.R [Wm 13 t1,Wn 14 t13 23,Wm 15 (Wk 0)]) (.b 0 (.l (.q (.R [Wb 16 .lss 3 t15 t14]) (.q (.c t16 .s (.x 0)) (.q (.b 1 (.q (.R [Wm 17 t15,Wi 18 23 t13 t15,Wl 19 3 t18,Wa 6 t17,Wa 7 t19]) (.q (.R [Wm 20 t7,Wb 21 .lss 3 t20 (Wk 0),Wm 22 t21,.g (some 23) (.move t6) 22 false,.g (some 24) (.binOp .gtr 3 t23 (Wk 0) 3) 22 false,.g (some 25) (.move t24) 22 false,.g (some 26) (.move t7) 25 true,.g (some 27) (.move t1) 25 true,.g (some 28) (.move t6) 25 true,.g (some 29) (.binOp .sub 3 t28 (Wk 1) 3) 25 true,.g (some 30) (.indexAddr 23 t27 t29) 25 true,.g (some 31) (.load 3 t30) 25 true,.g (some 32) (.binOp .leq 3 t26 t31 3) 25 true,.g (some 33) (.pick t25 t32 Wo) 22 false,.n 34 (.pick t22 Wt t33)]) (.c t34 (.q (.R [Wa 4 (Wk 11)]) .r) .s)))) (.R [Wb 35 .add 3 t15 (Wk 1),Wm 15 t35]))))))) (.q (.q (.R [Wm 36 t1,Wf 37 34 t2 0,Wl 38 31 t37,Wn 39 t38 31,Wc 40 61 #[t36,t39] #[23,3],Wb 41 .neq 36 t40 (Wk 0)]) (.c t41 (.q (.R [Wa 4 (Wk 13)]) .r) .s)) (.q (.R [Wa 4 (Wk 0)]) .r))))):=by kernel_rfl
theorem w104:Tryz.f104.body.map (Qq C)=some (.q (.R [Wa 3 (.const (.slice none 0 0))]) (.q (.R [Wm 7 t0,Wc 8 54 #[t7] #[23],Wv 4 23,Ws 23 t4 t8]) (.q (.q (.R [Wl 9 23 t1,Wc 10 101 #[t9] #[23]]) (.b 0 (.f t10 #[11,12] (.q (.R [Wa 5 t11]) (.R [Wv 6 131,Ws 131 t6 t12])) (.b 1 (.D true [Wl 13 23 t4,Wm 14 t5,Wi 15 23 t13 t14,Wl 16 3 t15,Wi 17 131 t6 (Wk 0),Wl 18 3 t17,Wb 19 .sub 3 t16 t18,Wi 20 23 t13 t14,Ws 3 t20 t19]))))) (.q (.R [Wl 21 23 t4,Wa 3 t21]) .r)))):=by kernel_rfl
theorem w112:Tryz.f112.body.map (Qq C)=some (.q (.R [Wa 4 Wo]) (.q (.q (.R [Wm 6 t0,Wn 7 t6 31,Wm 8 t1,Wn 9 t8 31,Wb 10 .neq 3 t7 t9]) (.c t10 (.q (.R [Wa 4 Wo]) .r) .s)) (.q (.q (.R [Wm 11 t0,Wn 12 t11 31,Wm 13 (Wk 0)]) (.b 0 (.l (.q (.R [Wb 14 .lss 3 t13 t12]) (.q (.c t14 .s (.x 0)) (.q (.b 1 (.q (.R [Wm 15 t13,Wa 5 t15]) (.q (.D true [Wm 16 t0,Wm 17 t5,Wi 18 31 t16 t17,Wl 19 3 t18,Wm 20 t1,Wm 21 t5,Wi 22 31 t20 t21,Wl 23 3 t22,Wb 24 .neq 3 t19 t23]) (.c t24 (.q (.R [Wa 4 Wo]) .r) .s)))) (.R [Wb 25 .add 3 t13 (Wk 1),Wm 13 t25]))))))) (.q (.R [Wa 4 Wt]) .r)))):=by kernel_rfl
theorem w120:Tryz.f120.body.map (Qq C)=some (.q (.R [.n 2 (.box 147 t0),.n 3 (.box 70 t1),Wv 4 70]) (.q (.q (.R [Wf 5 147 t2 0,Wl 6 4 t5]) (.c t6 (.q (.R [Wl 7 70 t3,Wc 8 75 #[t7] #[70],Ws 70 t4 t8]) .r) .s)) (.q (.R [Wl 9 70 t3,Ws 70 t4 t9]) .r))):=by kernel_rfl
theorem w128:Tryz.f128.body.map (Qq C)=some (.q (.R [Wa 0 (.const (.slice none 0 0))]) (.q (.R [Wc 1 155 #[.const (.int .u64 1)] #[189],Wa 0 t1]) .r)):=by kernel_rfl
theorem w136:Tryz.f136.body.map (Qq C)=some (.q (.R [Wa 2 (.const (.slice none 0 0))]) (.q (.R [Wm 4 t0,Wc 5 167 #[t4] #[169],Wa 3 t5]) (.q (.R [Wm 6 t3,Wc 7 168 #[t6] #[23]]) (.q (.R [Wm 8 t3,Wa 2 t8]) .r)))):=by kernel_rfl
theorem w144:Tryz.f144.body.map (Qq C)=some (.q (.R [Wa 0 (.const (.slice none 0 0))]) (.q (.R [.n 1 (.build 82 #[(0,Wk 1),(1,.const (.string { data:=#[97,100,100] })),(2,Wk 1),(3,Wk 3),(4,Wk 2),(5,Wk 2),(6,.func 171),(7,Wk 0)]),.n 2 (.build 82 #[(0,Wk 2),(1,.const (.string { data:=#[115,117,98] })),(2,Wk 1),(3,Wk 3),(4,Wk 2),(5,Wk 2),(6,.func 171),(7,Wk 0)]),.n 3 (.build 82 #[(0,Wk 3),(1,.const (.string { data:=#[109,117,108] })),(2,Wk 1),(3,Wk 3),(4,Wk 2),(5,Wk 2),(6,.func 171),(7,Wk 0)]),.n 4 (.build 82 #[(0,Wk 4),(1,.const (.string { data:=#[100,105,118] })),(2,Wk 1),(3,Wk 3),(4,Wk 2),(5,Wk 2),(6,.func 171),(7,Wk 0)]),.n 5 (.build 82 #[(0,Wk 5),(1,.const (.string { data:=#[110,101,103] })),(2,Wk 1),(3,Wk 3),(4,Wk 1),(5,Wk 1),(6,.func 171),(7,Wk 0)]),Wc 6 172 #[Wk 16] #[3],.n 7 (.build 82 #[(0,Wk 6),(1,.const (.string { data:=#[112,111,119] })),(2,Wk 1),(3,Wk 3),(4,Wk 1),(5,Wk 1),(6,t6),(7,Wk 1)]),.n 8 (.build 82 #[(0,Wk 7),(1,.const (.string { data:=#[114,101,108,117] })),(2,Wk 1),(3,Wk 3),(4,Wk 1),(5,Wk 1),(6,.func 171),(7,Wk 0)]),.n 9 (.build 82 #[(0,Wk 8),(1,.const (.string { data:=#[115,116,101,112] })),(2,Wk 3),(3,Wk 3),(4,Wk 1),(5,Wk 1),(6,.func 171),(7,Wk 0)]),.n 10 (.build 82 #[(0,Wk 9),(1,.const (.string { data:=#[115,99,97,108,101] })),(2,Wk 3),(3,Wk 3),(4,Wk 1),(5,Wk 1),(6,.func 173),(7,Wk 0)]),.n 11 (.build 82 #[(0,Wk 10),(1,.const (.string { data:=#[109,97,116,109,117,108] })),(2,Wk 1),(3,Wk 3),(4,Wk 2),(5,Wk 2),(6,.func 171),(7,Wk 0)]),.n 12 (.build 82 #[(0,Wk 11),(1,.const (.string { data:=#[116,114,97,110,115,112,111,115,101] })),(2,Wk 1),(3,Wk 3),(4,Wk 1),(5,Wk 1),(6,.func 174),(7,Wk 1)]),.n 13 (.build 82 #[(0,Wk 12),(1,.const (.string { data:=#[114,101,115,104,97,112,101] })),(2,Wk 1),(3,Wk 3),(4,Wk 1),(5,Wk 1),(6,.func 175),(7,Wk 0)]),.n 14 (.build 82 #[(0,Wk 13),(1,.const (.string { data:=#[98,114,111,97,100,99,97,115,116] })),(2,Wk 1),(3,Wk 3),(4,Wk 1),(5,Wk 1),(6,.func 175),(7,Wk 0)]),.n 15 (.build 82 #[(0,Wk 14),(1,.const (.string { data:=#[115,117,109] })),(2,Wk 1),(3,Wk 3),(4,Wk 1),(5,Wk 1),(6,.func 176),(7,Wk 2)]),Wc 16 177 #[.func 178] #[78],.n 17 (.build 82 #[(0,Wk 15),(1,.const (.string { data:=#[115,108,105,99,101] })),(2,Wk 1),(3,Wk 3),(4,Wk 1),(5,Wk 1),(6,t16),(7,Wk 0)]),Wc 18 177 #[.func 179] #[78],.n 19 (.build 82 #[(0,Wk 16),(1,.const (.string { data:=#[112,97,100] })),(2,Wk 1),(3,Wk 3),(4,Wk 1),(5,Wk 1),(6,t18),(7,Wk 0)]),Wc 20 172 #[Wk 3] #[3],.n 21 (.build 82 #[(0,Wk 17),(1,.const (.string { data:=#[99,111,110,99,97,116] })),(2,Wk 1),(3,Wk 3),(4,Wk 1),(5,Wk 8),(6,t20),(7,Wk 1)]),.n 22 (.build 82 #[(0,Wk 18),(1,.const (.string { data:=#[115,113,117,97,114,101] })),(2,Wk 1),(3,Wk 1),(4,Wk 1),(5,Wk 1),(6,.func 171),(7,Wk 0)]),.n 23 (.build 82 #[(0,Wk 19),(1,.const (.string { data:=#[103,101,109,109] })),(2,Wk 1),(3,Wk 2),(4,Wk 3),(5,Wk 3),(6,.func 171),(7,Wk 0)]),.n 24 (.build 82 #[(0,Wk 20),(1,.const (.string { data:=#[109,101,97,110] })),(2,Wk 1),(3,Wk 2),(4,Wk 1),(5,Wk 1),(6,.func 176),(7,Wk 2)]),.n 25 (.buildSlice 177 20 #[(0,t1),(1,t2),(2,t3),(3,t4),(4,t5),(5,t7),(6,t8),(7,t9),(8,t10),(9,t11),(10,t12),(11,t13),(12,t14),(13,t15),(14,t17),(15,t19),(16,t21),(17,t22),(18,t23),(19,t24)]),Wa 0 t25]) .r)):=by kernel_rfl
theorem w152:Tryz.f152.body.map (Qq C)=some (.q (.R [.n 2 (.box 68 t0),.n 3 (.box 68 t1),Wa 4 (.const (.slice none 0 0)),Wa 5 (Wk 0)]) (.q (.q (.R [Wl 8 68 t2,Wl 9 68 t3,Wc 10 185 #[t8,t9] #[68,68],Wb 11 .lss 3 t10 (Wk 0)]) (.c t11 (.q (.R [Wa 4 (.const (.slice none 0 0)),Wa 5 (Wk 20)]) .r) .s)) (.q (.R [Wv 6 189,Ws 189 t6 (.const (.int .u64 0))]) (.q (.R [Wl 12 68 t2,Wn 13 t12 68,.n 14 (.makeFunc (.func 186) #[] #[t2,t3,t6]),Wc 15 182 #[t13,t14] #[3,206],Wa 7 t15]) (.q (.R [Wm 16 t7,Wa 4 t16,Wa 5 (Wk 0)]) .r))))):=by kernel_rfl
theorem w160:Tryz.f160.body.map (Qq C)=some (.q (.R [Wa 4 (.const (.slice none 0 0))]) (.q (.R [Wm 9 t0,Wm 10 t1,Wc 11 191 #[t9,t10] #[68,68],Wm 8 t11,We 12 t8 0,We 13 t8 1,We 14 t8 2,Wa 5 t12,Wa 6 t13,Wa 7 t14]) (.q (.R [Wm 15 t5,Wa 4 t15]) .r))):=by kernel_rfl
theorem w168:Tryz.f168.body.map (Qq C)=some (.q (.R [Wm 3 t0,Wn 4 t3 23,Wa 2 t4]) (.R [Wm 5 t0,Wm 6 t2,Wm 7 t2,.n 8 (.convert 3 191 t7),Wc 9 195 #[t8] #[191],Wc 10 194 #[t5,Wk 0,t6,t9] #[23,3,3,3]])):=by kernel_rfl
theorem w176:Tryz.f176.body.map (Qq C)=some (.q (.R [Wa 2 Wo]) (.q (.R [Wm 3 t0,Wc 4 61 #[t3,Wk 4] #[23,3],Wb 5 .eql 36 t4 (Wk 0),Wa 2 t5]) .r)):=by kernel_rfl
theorem w184:Tryz.f184.body.map (Qq C)=some (.q (.R [Wa 4 (.const (.int .u64 0))]) (.q (.q (.R [Wm 5 t1,Wb 6 .lss 3 t5 (Wk 0),Wm 7 t6,.g (some 8) (.move t1) 7 false,.g (some 9) (.move t0) 7 false,.g (some 10) (.call ⟨.builtin .len,#[t9],#[68]⟩) 7 false,.g (some 11) (.binOp .geq 3 t8 t10 3) 7 false,.n 12 (.pick t7 Wt t11)]) (.c t12 (.q (.R [Wa 4 (.const (.int .u64 0))]) .r) .s)) (.q (.R [Wm 13 t0,Wm 14 t1,Wi 15 68 t13 t14,Wl 16 162 t15,.n 17 (.convert 162 189 t16),Wa 4 t17]) .r))):=by kernel_rfl
theorem w192:Tryz.f192.body.map (Qq C)=some (.q (.R [Wa 4 (Wk 0)]) (.q (.q (.R [Wm 6 t0,Wn 7 t6 54,Wm 8 t1,Wn 9 t8 54,Wb 10 .neq 3 t7 t9]) (.c t10 (.q (.q (.R [Wm 11 t0,Wn 12 t11 54,Wm 13 t1,Wn 14 t13 54,Wb 15 .lss 3 t12 t14]) (.c t15 (.q (.R [Wa 4 (.const (.int .i64 (-1)))]) .r) .s)) (.q (.R [Wa 4 (Wk 1)]) .r)) .s)) (.q (.q (.R [Wm 16 t0,Wn 17 t16 54,Wb 18 .sub 3 t17 (Wk 1),Wa 5 t18]) (.b 0 (.l (.q (.q (.R [Wm 19 t5,Wb 20 .geq 3 t19 (Wk 0)]) (.c t20 .s (.x 0))) (.q (.b 1 (.q (.q (.D true [Wm 23 t0,Wm 24 t5,Wi 25 54 t23 t24,Wl 26 3 t25,Wm 27 t1,Wm 28 t5,Wi 29 54 t27 t28,Wl 30 3 t29,Wb 31 .lss 3 t26 t30]) (.c t31 (.q (.R [Wa 4 (.const (.int .i64 (-1)))]) .r) .s)) (.q (.D true [Wm 32 t0,Wm 33 t5,Wi 34 54 t32 t33,Wl 35 3 t34,Wm 36 t1,Wm 37 t5,Wi 38 54 t36 t37,Wl 39 3 t38,Wb 40 .gtr 3 t35 t39]) (.c t40 (.q (.R [Wa 4 (Wk 1)]) .r) .s)))) (.R [Wm 21 t5,Wb 22 .sub 3 t21 (Wk 1),Wa 5 t22])))))) (.q (.R [Wa 4 (Wk 0)]) .r)))):=by kernel_rfl
theorem w200:Tryz.f200.body.map (Qq C)=some (.q (.R [Wa 6 (.const (.int .u64 0))]) (.q (.q (.R [Wm 8 t0,Wl 9 3 t1,Wb 10 .lss 3 t8 t9]) (.c t10 (.q (.R [Wa 6 (.const (.int .u64 0))]) .r) .s)) (.q (.D true [Wl 11 68 t2,Wm 12 t0,Wl 13 3 t1,Wb 14 .sub 3 t12 t13,Wc 15 184 #[t11,t14] #[68,3],Wl 16 162 t3,.n 17 (.convert 162 189 t16),Wb 18 .mul 189 t15 t17,Wl 19 189 t4,Wb 20 .add 189 t18 t19,Wa 7 t20]) (.q (.R [Wm 21 t7,.n 22 (.binOp .shr 189 t21 (.const (.int .u64 32)) 191),Ws 189 t4 t22]) (.q (.R [Wm 23 t7,Wb 24 .and 189 t23 (.const (.int .u64 4294967295)),Wa 6 t24]) .r))))):=by kernel_rfl
theorem w208:Tryz.f208.body.map (Qq C)=some (.q (.R [Wa 4 (.const (.int .u32 0))]) (.q (.q (.R [Wm 7 t1,Wn 8 t7 67,Wm 9 (Wk 0)]) (.b 0 (.l (.q (.R [Wb 10 .lss 3 t9 t8]) (.q (.c t10 .s (.x 0)) (.q (.b 1 (.q (.R [Wm 11 t9,Wi 12 67 t7 t9,Wl 13 162 t12,Wa 5 t11,Wa 6 t13]) (.R [Wm 15 t0,Wm 16 t5,Wm 17 t0,Wm 18 t5,Wi 19 67 t17 t18,Wl 20 162 t19,Wm 21 t6,Wm 22 t4,Wc 23 223 #[t20,t21,t22] #[162,162,162],Wm 14 t23,We 24 t14 0,We 25 t14 1,Wi 26 67 t15 t16,Ws 162 t26 t24,Wa 4 t25]))) (.R [Wb 27 .add 3 t9 (Wk 1),Wm 9 t27]))))))) (.R [Wm 28 t0,Wm 29 t1,Wn 30 t29 67,Wi 31 67 t28 t30,Wl 32 162 t31,Wm 33 t4,Wb 34 .add 162 t32 t33,Wi 35 67 t28 t30,Ws 162 t35 t34]))):=by kernel_rfl
theorem w223:Tryz.f223.body.map (Qq C)=some (.q (.R [Wa 6 (.const (.int .u32 0)),Wa 7 (.const (.int .u32 0))]) (.q (.R [Wm 9 t0,.n 10 (.convert 162 189 t9),Wm 11 t1,.n 12 (.convert 162 189 t11),Wb 13 .add 189 t10 t12,Wm 14 t2,.n 15 (.convert 162 189 t14),Wb 16 .add 189 t13 t15,Wa 8 t16]) (.q (.R [Wm 17 t8,.n 18 (.convert 189 162 t17),Wa 6 t18]) (.q (.R [Wm 19 t8,.n 20 (.binOp .shr 189 t19 (.const (.int .u64 32)) 191),.n 21 (.convert 189 162 t20),Wa 7 t21]) .r)))):=by kernel_rfl
theorem w9:Tryz.f9.body.map (Qq C)=some (.q (.R [.n 4 (.box 25 t1),Wa 6 (.const (.slice none 0 0)),Wa 7 (Wk 0)]) (.q (.q (.R [Wm 12 t0,Wl 13 25 t4,Wc 14 20 #[t12,t13] #[3,25],Wa 8 t14]) (.q (.R [Wm 15 t8,Wb 16 .neq 36 t15 (Wk 0)]) (.c t16 (.q (.R [Wm 17 t8,Wa 6 (.const (.slice none 0 0)),Wa 7 t17]) .r) .s))) (.q (.q (.R [Wm 18 t2,Wn 19 t18 26,Wf 20 25 t4 1,Wl 21 23 t20,Wn 22 t21 23,Wb 23 .neq 3 t19 t22]) (.c t23 (.q (.R [Wa 6 (.const (.slice none 0 0)),Wa 7 (Wk 10)]) .r) .s)) (.q (.q (.R [Wm 24 t2,Wn 25 t24 26,Wm 26 (Wk 0)]) (.b 0 (.l (.q (.R [Wb 27 .lss 3 t26 t25]) (.q (.c t27 .s (.x 0)) (.q (.b 1 (.q (.R [Wi 28 26 t24 t26,Wl 29 31 t28,Wa 10 t29]) (.q (.R [Wm 30 t10,Wc 31 21 #[t30] #[31],Wa 11 t31]) (.q (.R [Wm 32 t11,Wb 33 .neq 36 t32 (Wk 0)]) (.c t33 (.q (.R [Wm 34 t11,Wa 6 (.const (.slice none 0 0)),Wa 7 t34]) .r) .s))))) (.R [Wb 35 .add 3 t26 (Wk 1),Wm 26 t35]))))))) (.q (.D true [Wf 36 25 t4 0,Wl 37 22 t36,Wm 38 t0,Wl 39 25 t4,Wm 40 t2,Wi 41 26 t40 (Wk 0),Wl 42 31 t41,Wn 43 t42 31,.n 44 (.buildSlice 23 1 #[(0,t43)]),Wc 45 23 #[t38,t39,t44] #[3,25,23],Wm 46 t2,Wc 47 22 #[t37,t45,t46] #[22,23,26],We 48 t47 0,We 49 t47 1,Wa 6 t48,Wa 7 t49]) .r))))):=by kernel_rfl
theorem w17:Tryz.f17.body.map (Qq C)=some (.q (.R [.n 1 (.box 52 t0),Wv 2 34]) (.q (.R [Wf 5 52 t1 0,Wl 6 23 t5,.n 7 (.call ⟨.builtin .append,#[.const (.slice none 0 0),t6],#[31,23]⟩),.n 8 (.build 34 #[(0,t7)]),Wv 3 34,Ws 34 t3 t8]) (.q (.q (.R [Wa 4 (Wk 0)]) (.b 0 (.l (.q (.q (.R [Wm 9 t4,Wf 10 52 t1 1,Wl 11 50 t10,Wn 12 t11 50,Wb 13 .lss 3 t9 t12]) (.c t13 .s (.x 0))) (.q (.b 1 (.D true [Wf 16 34 t3 1,Wl 17 32 t16,Wf 18 52 t1 1,Wl 19 50 t18,Wm 20 t4,Wi 21 50 t19 t20,Wl 22 56 t21,Wc 23 34 #[t22] #[56],.n 24 (.buildSlice 32 1 #[(0,t23)]),.n 25 (.call ⟨.builtin .append,#[t17,t24],#[32,32]⟩),Wf 26 34 t3 1,Ws 32 t26 t25])) (.R [Wm 14 t4,Wb 15 .add 3 t14 (Wk 1),Wa 4 t15])))))) (.q (.R [Wl 27 34 t3,Ws 34 t2 t27]) .r)))):=by kernel_rfl
theorem w25:Tryz.f25.body.map (Qq C)=some (.q (.R [.n 2 (.box 34 t0),.n 3 (.box 34 t1),Wv 4 34,Wa 5 (Wk 0)]) (.q (.D true [Wl 6 34 t2,Wl 7 34 t3,Wc 8 69 #[.func 70] #[104],Wc 9 68 #[t6,t7,t8] #[34,34,102],We 10 t9 0,We 11 t9 1,Ws 34 t4 t10,Wa 5 t11]) .r)):=by kernel_rfl
theorem w33:Tryz.f33.body.map (Qq C)=some (.q (.R [.n 2 (.box 34 t0),.n 3 (.box 70 t1),Wv 4 34,Wa 5 (Wk 0)]) (.q (.R [Wl 6 34 t2,.n 7 (.makeFunc (.func 84) #[] #[t3]),Wc 8 74 #[t6,t7] #[34,106],We 9 t8 0,We 10 t8 1,Ws 34 t4 t9,Wa 5 t10]) .r)):=by kernel_rfl
theorem w41:Tryz.f41.body.map (Qq C)=some (.q (.R [.n 2 (.box 34 t0),.n 3 (.box 23 t1),Wv 4 34,Wa 5 (Wk 0)]) (.q (.q (.R [Wl 12 34 t2,Wl 13 23 t3,Wc 14 96 #[t12,t13] #[34,23],Wa 6 t14]) (.q (.R [Wm 15 t6,Wb 16 .neq 36 t15 (Wk 0)]) (.c t16 (.q (.R [.n 17 (.build 34 #[]),Wm 18 t6,Ws 34 t4 t17,Wa 5 t18]) .r) .s))) (.q (.R [Wf 19 34 t2 0,Wl 20 31 t19,Wl 21 23 t3,Wc 22 62 #[t20,t21] #[31,23],Wc 23 97 #[t22] #[31],Wv 7 34,Ws 34 t7 t23]) (.q (.R [.n 24 (.makeFunc (.func 98) #[] #[t2,t7,t3]),Wa 8 t24]) (.q (.q (.R [Wf 25 34 t2 1,Wl 26 32 t25,Wn 27 t26 32,Wm 28 (Wk 0)]) (.b 0 (.l (.q (.R [Wb 29 .lss 3 t28 t27]) (.q (.c t29 .s (.x 0)) (.q (.b 1 (.q (.R [Wm 30 t28,Wi 31 32 t26 t28,Wl 32 70 t31,Wv 10 70,Wa 9 t30,Ws 70 t10 t32]) (.q (.R [Wm 33 t8,Wm 34 t9,.n 35 (.call ⟨.value t33,#[t34],#[3]⟩),Wa 11 t35]) (.D true [Wf 36 34 t7 1,Wl 37 32 t36,Wm 38 t11,Wf 39 34 t7 1,Wl 40 32 t39,Wm 41 t11,Wi 42 32 t40 t41,Wl 43 70 t42,Wl 44 70 t10,Wc 45 70 #[t43,t44] #[70,70],Wi 46 32 t37 t38,Ws 70 t46 t45])))) (.R [Wb 47 .add 3 t28 (Wk 1),Wm 28 t47]))))))) (.q (.R [Wl 48 34 t7,Ws 34 t4 t48,Wa 5 (Wk 0)]) .r)))))):=by kernel_rfl
theorem w49:Tryz.f49.body.map (Qq C)=some (.q (.R [Wa 2 Wo]) (.q (.R [Wm 3 t0,Wb 4 .gtr 3 t3 (Wk 2147483647),Wm 5 t4,.g (some 6) (.move t0) 5 false,.g (some 7) (.binOp .lss 3 t6 (.const (.int .i64 (-2147483647))) 3) 5 false,.n 8 (.pick t5 Wt t7),Wa 2 t8]) .r)):=by kernel_rfl
theorem w57:Tryz.f57.body.map (Qq C)=some (.q (.R [Wa 4 (.const (.slice none 0 0)),Wa 5 (Wk 0)]) (.q (.q (.D true [Wm 6 t0,Wn 7 t6 31,Wb 8 .neq 3 t7 (Wk 2),Wm 9 t8,.g (some 10) (.move t1) 9 false,.g (some 11) (.call ⟨.builtin .len,#[t10],#[31]⟩) 9 false,.g (some 12) (.binOp .neq 3 t11 (Wk 2) 3) 9 false,.n 13 (.pick t9 Wt t12),Wm 14 t13,.g (some 15) (.move t0) 14 false,.g (some 16) (.indexAddr 31 t15 (Wk 1)) 14 false,.g (some 17) (.load 3 t16) 14 false,.g (some 18) (.move t1) 14 false,.g (some 19) (.indexAddr 31 t18 (Wk 0)) 14 false,.g (some 20) (.load 3 t19) 14 false,.g (some 21) (.binOp .neq 3 t17 t20 3) 14 false,.n 22 (.pick t14 Wt t21)]) (.c t22 (.q (.R [Wa 4 (.const (.slice none 0 0)),Wa 5 (Wk 13)]) .r) .s)) (.q (.D true [Wm 23 t0,Wi 24 31 t23 (Wk 0),Wl 25 3 t24,Wm 26 t1,Wi 27 31 t26 (Wk 1),Wl 28 3 t27,.n 29 (.buildSlice 31 2 #[(0,t25),(1,t28)]),Wc 30 113 #[t29] #[31],We 31 t30 0,We 32 t30 1,Wa 4 t31,Wa 5 t32]) .r))):=by kernel_rfl
theorem w65:Tryz.f65.body.map (Qq C)=some (.q (.R [Wa 6 (Wk 0),Wa 7 Wo]) (.q (.R [Wm 8 t0,Wm 9 t1,Wb 10 .add 3 t8 t9,Wm 11 t2,Wb 12 .add 3 t10 t11,Wa 6 t12,Wa 7 Wt]) .r)):=by kernel_rfl
theorem w73:Tryz.f73.body.map (Qq C)=some (.q (.R [.n 2 (.box 70 t0),.n 3 (.box 70 t1),Wv 4 70,Wa 5 (Wk 0)]) (.q (.R [Wl 6 70 t3,Wc 7 82 #[t6] #[70],Ws 70 t3 t7]) (.q (.q (.R [Wf 8 70 t3 1,Wl 9 68 t8,Wn 10 t9 68,Wb 11 .eql 3 t10 (Wk 0)]) (.c t11 (.q (.R [.n 12 (.build 70 #[]),Ws 70 t4 t12,Wa 5 (Wk 17)]) .r) .s)) (.q (.R [Wl 13 70 t2,Wf 14 70 t3 0,Wl 15 4 t14,Wf 16 70 t3 2,Wl 17 68 t16,Wf 18 70 t3 1,Wl 19 68 t18,.n 20 (.build 70 #[(0,t15),(1,t17),(2,t19)]),.n 21 (.buildSlice 32 2 #[(0,t13),(1,t20)]),Wc 22 121 #[t21] #[32],Ws 70 t4 t22,Wa 5 (Wk 0)]) .r)))):=by kernel_rfl
theorem w81:Tryz.f81.body.map (Qq C)=some (.q (.R [Wv 2 70]) (.q (.R [Wm 3 t0,Wb 4 .lss 2 t3 (Wk 0),Wm 5 t0,Wc 6 127 #[t5] #[2],Wc 7 128 #[] #[],.n 8 (.build 70 #[(0,t4),(1,t6),(2,t7)]),Ws 70 t2 t8]) .r)):=by kernel_rfl
theorem w89:Tryz.f89.body.map (Qq C)=some (.q (.R [.n 2 (.box 34 t0),Wv 4 70]) (.q (.R [Wm 9 t1,Wm 10 t1,Wn 11 t10 23,Wf 12 34 t2 0,Wl 13 31 t12,Wn 14 t13 31,Wb 15 .sub 3 t11 t14,.n 16 (.slice 23 t9 (some t15) none none),Wc 17 54 #[t16] #[23],Wa 1 t17]) (.q (.q (.R [Wf 18 34 t2 0,Wl 19 31 t18,Wn 20 t19 31,Wm 21 (Wk 0)]) (.b 0 (.l (.q (.R [Wb 22 .lss 3 t21 t20]) (.q (.c t22 .s (.x 0)) (.q (.b 1 (.q (.R [Wm 23 t21,Wi 24 31 t19 t21,Wl 25 3 t24,Wa 5 t23,Wa 6 t25]) (.R [Wm 26 t1,Wm 27 t5,Wm 28 t1,Wm 29 t5,Wi 30 23 t28 t29,Wl 31 3 t30,Wm 32 t6,Wb 33 .sub 3 t32 (Wk 1),.n 34 (.call ⟨.builtin .min,#[t31,t33],#[3,3]⟩),Wi 35 23 t26 t27,Ws 3 t35 t34]))) (.R [Wb 36 .add 3 t21 (Wk 1),Wm 21 t36]))))))) (.q (.R [Wl 38 34 t2,Wm 39 t1,Wc 40 135 #[t38,t39] #[34,23],Wm 37 t40,We 41 t37 0,We 42 t37 1,Wv 7 70,Ws 70 t7 t41,Wa 8 t42]) (.q (.R [Wl 43 70 t7,Ws 70 t4 t43]) .r))))):=by kernel_rfl
theorem w97:Tryz.f97.body.map (Qq C)=some (.q (.R [Wv 2 34]) (.q (.R [Wm 3 t0,Wc 4 53 #[t3] #[31],Wc 5 81 #[Wk 0] #[2],.n 6 (.buildSlice 32 1 #[(0,t5)]),Wm 7 t0,Wc 8 60 #[t7] #[31],Wc 9 141 #[t6,t8] #[32,3],.n 10 (.build 34 #[(0,t4),(1,t9)]),Ws 34 t2 t10]) .r)):=by kernel_rfl
theorem w105:Tryz.f105.body.map (Qq C)=some (.q (.R [.n 4 (.box 70 t1),Wa 6 (.const (.slice none 0 0))]) (.q (.R [Wa 7 (.const (.slice none 0 0))]) (.q (.q (.R [Wm 13 t0,Wc 14 60 #[t13] #[31],Wm 15 (Wk 0)]) (.b 0 (.l (.q (.R [Wb 16 .lss 3 t15 t14]) (.q (.c t16 .s (.x 0)) (.q (.b 1 (.q (.R [Wm 17 t15,Wa 8 t17]) (.q (.R [Wm 19 t0,Wm 20 t8,Wc 21 88 #[t19,t20] #[31,3],Wm 18 t21,We 22 t18 0,We 23 t18 1,Wa 9 t22,Wa 10 t23]) (.q (.R [Wm 25 t2,Wm 26 t9,.n 27 (.call ⟨.value t25,#[t26],#[23]⟩),Wm 24 t27,We 28 t24 0,We 29 t24 1,Wv 11 70,Ws 70 t11 t28,Wa 12 t29]) (.q (.q (.R [Wm 30 t12,.n 31 (.unOp .not 4 t30)]) (.c t31 (.R [Wl 32 70 t4,Ws 70 t11 t32]) .s)) (.R [Wm 33 t7,Wl 34 70 t11,.n 35 (.buildSlice 32 1 #[(0,t34)]),.n 36 (.call ⟨.builtin .append,#[t33,t35],#[32,32]⟩),Wa 7 t36])))))) (.R [Wb 37 .add 3 t15 (Wk 1),Wm 15 t37]))))))) (.q (.R [Wm 38 t7,Wa 6 t38]) .r)))):=by kernel_rfl
theorem w113:Tryz.f113.body.map (Qq C)=some (.q (.R [Wa 2 (.const (.slice none 0 0)),Wa 3 (Wk 0)]) (.q (.q (.R [Wm 5 t0,Wc 6 21 #[t5] #[31],Wa 4 t6]) (.q (.R [Wm 7 t4,Wb 8 .neq 36 t7 (Wk 0)]) (.c t8 (.q (.R [Wm 9 t4,Wa 2 (.const (.slice none 0 0)),Wa 3 t9]) .r) .s))) (.q (.R [Wm 10 t0,Wa 2 t10,Wa 3 (Wk 0)]) .r))):=by kernel_rfl
theorem w121:Tryz.f121.body.map (Qq C)=some (.q (.R [Wv 2 70]) (.q (.R [Wc 6 81 #[Wk 1] #[2],Wv 3 70,Ws 70 t3 t6]) (.q (.q (.R [Wm 7 t0,Wn 8 t7 32,Wm 9 (Wk 0)]) (.b 0 (.l (.q (.R [Wb 10 .lss 3 t9 t8]) (.q (.c t10 .s (.x 0)) (.q (.b 1 (.q (.R [Wi 11 32 t7 t9,Wl 12 70 t11,Wv 5 70,Ws 70 t5 t12]) (.q (.R [Wl 13 70 t5,Wc 14 82 #[t13] #[70],Ws 70 t5 t14]) (.D true [Wf 16 70 t3 0,Wl 17 4 t16,Wf 18 70 t5 0,Wl 19 4 t18,Wb 20 .neq 4 t17 t19,Wf 21 70 t3 1,Wl 22 68 t21,Wf 23 70 t5 1,Wl 24 68 t23,Wc 25 149 #[t22,t24] #[68,68],Wf 26 70 t3 2,Wl 27 68 t26,Wf 28 70 t5 2,Wl 29 68 t28,Wc 30 149 #[t27,t29] #[68,68],Wc 31 129 #[t20,t25,t30] #[4,68,68],Wm 15 t31,We 32 t15 0,We 33 t15 1,Ws 70 t3 t32])))) (.R [Wb 34 .add 3 t9 (Wk 1),Wm 9 t34]))))))) (.q (.R [Wl 35 70 t3,Ws 70 t2 t35]) .r)))):=by kernel_rfl
theorem w129:Tryz.f129.body.map (Qq C)=some (.q (.R [Wv 6 70,Wa 7 (Wk 0)]) (.q (.q (.R [Wm 10 t2,Wc 11 157 #[t10] #[68],Wb 12 .eql 3 t11 (Wk 0)]) (.c t12 (.q (.R [.n 13 (.build 70 #[]),Ws 70 t6 t13,Wa 7 (Wk 17)]) .r) .s)) (.q (.q (.R [Wm 14 t1,Wc 15 157 #[t14] #[68],Wb 16 .eql 3 t15 (Wk 0)]) (.c t16 (.q (.R [Wc 17 128 #[] #[],.n 18 (.build 70 #[(2,t17)]),Ws 70 t6 t18,Wa 7 (Wk 0)]) .r) .s)) (.q (.R [Wm 19 t1,Wm 20 t2,Wc 21 158 #[t19,t20] #[68,68],Wv 8 68,Ws 68 t8 t21]) (.q (.R [.n 22 (.makeFunc (.func 159) #[] #[t8]),Wa 9 t22]) (.q (.R [Wm 23 t0,Wm 24 t9,Wm 25 t1,.n 26 (.call ⟨.value t24,#[t25],#[68]⟩),Wm 27 t9,Wm 28 t2,.n 29 (.call ⟨.value t27,#[t28],#[68]⟩),.n 30 (.build 70 #[(0,t23),(1,t26),(2,t29)]),Ws 70 t6 t30,Wa 7 (Wk 0)]) .r)))))):=by kernel_rfl
theorem w137:Tryz.f137.body.map (Qq C)=some (.q (.R [.n 1 (.box 23 t0),Wa 2 (.const .nilFunc)]) (.q (.R [.n 3 (.makeFunc (.func 169) #[] #[t1]),Wa 2 t3]) .r)):=by kernel_rfl
theorem w145:Tryz.f145.body.map (Qq C)=some (.q (.R [Wa 4 (Wk 0)]) (.q (.q (.R [Wm 6 t0,Wn 7 t6 177,Wm 8 (Wk 0)]) (.b 0 (.l (.q (.R [Wb 9 .lss 3 t8 t7]) (.q (.c t9 .s (.x 0)) (.q (.b 1 (.q (.R [Wm 10 t8,Wa 5 t10]) (.q (.R [Wm 11 t1,Wm 12 t0,Wm 13 t5,Wi 14 177 t12 t13,Wl 15 82 t14,.n 16 (.call ⟨.value t11,#[t15],#[82]⟩)]) (.c t16 (.q (.R [Wm 17 t5,Wa 4 t17]) .r) .s)))) (.R [Wb 18 .add 3 t8 (Wk 1),Wm 8 t18]))))))) (.q (.R [Wa 4 (.const (.int .i64 (-1)))]) .r))):=by kernel_rfl
theorem w153:Tryz.f153.body.map (Qq C)=some (.q (.R [Wf 5 152 t1 1,Wl 6 32 t5,Wn 7 t6 32,Wm 8 (Wk 0)]) (.b 0 (.l (.q (.R [Wb 9 .lss 3 t8 t7]) (.q (.c t9 .s (.x 0)) (.q (.b 1 (.q (.R [Wm 10 t8,Wi 11 32 t6 t8,Wl 12 70 t11,Wv 4 70,Wa 3 t10,Ws 70 t4 t12]) (.q (.R [Wm 13 t0,Wm 14 t3,Wl 15 70 t4,.n 16 (.call ⟨.value t13,#[t14,t15],#[3,70]⟩),.n 17 (.unOp .not 4 t16)]) (.c t17 .r .s)))) (.R [Wb 18 .add 3 t8 (Wk 1),Wm 8 t18]))))))):=by kernel_rfl
theorem w161:Tryz.f161.body.map (Qq C)=some (.q (.R [Wa 2 (.const (.slice none 0 0))]) (.q (.R [Wm 4 t0,Wn 5 t4 54,Wa 3 t5]) (.q (.b 0 (.l (.q (.q (.R [Wm 6 t3,Wb 7 .gtr 3 t6 (Wk 0),Wm 8 t7,.g (some 9) (.move t0) 8 true,.g (some 10) (.move t3) 8 true,.g (some 11) (.binOp .sub 3 t10 (Wk 1) 3) 8 true,.g (some 12) (.indexAddr 54 t9 t11) 8 true,.g (some 13) (.load 3 t12) 8 true,.g (some 14) (.binOp .eql 3 t13 (Wk 0) 3) 8 true,.n 15 (.pick t8 t14 Wo)]) (.c t15 .s (.x 0))) (.b 1 (.R [Wm 16 t3,Wb 17 .sub 3 t16 (Wk 1),Wa 3 t17]))))) (.q (.R [Wm 18 t0,Wm 19 t3,.n 20 (.slice 54 t18 none (some t19) none),Wa 2 t20]) .r)))):=by kernel_rfl
theorem w169:Tryz.f169.body.map (Qq C)=some (.q (.R [Wl 5 23 t1,Wn 6 t5 23,Wm 7 (Wk 0)]) (.b 0 (.l (.q (.R [Wb 8 .lss 3 t7 t6]) (.q (.c t8 .s (.x 0)) (.q (.b 1 (.q (.R [Wi 9 23 t5 t7,Wl 10 3 t9,Wa 4 t10]) (.q (.R [Wm 11 t0,Wm 12 t4,.n 13 (.call ⟨.value t11,#[t12],#[3]⟩),.n 14 (.unOp .not 4 t13)]) (.c t14 .r .s)))) (.R [Wb 15 .add 3 t7 (Wk 1),Wm 7 t15]))))))):=by kernel_rfl
theorem w177:Tryz.f177.body.map (Qq C)=some (.q (.R [.n 1 (.box 78 t0),Wa 2 (.const .nilFunc)]) (.q (.R [.n 3 (.makeFunc (.func 199) #[] #[t1]),Wa 2 t3]) .r)):=by kernel_rfl
theorem w185:Tryz.f185.body.map (Qq C)=some (.q (.R [.n 2 (.box 68 t0),.n 3 (.box 68 t1),Wv 4 3]) (.q (.q (.R [Wl 8 68 t2,Wl 9 68 t3,.n 10 (.buildSlice 233 2 #[(0,t8),(1,t9)]),Wc 11 202 #[t10] #[233]]) (.b 0 (.f t11 #[12] (.R [Wa 5 t12]) (.b 1 (.q (.D true [Wl 13 68 t2,Wm 14 t5,Wc 15 184 #[t13,t14] #[68,3],Wl 16 68 t3,Wm 17 t5,Wc 18 184 #[t16,t17] #[68,3],Wa 6 t15,Wa 7 t18]) (.b 2 (.q (.R [Wm 20 t6,Wm 21 t7,Wb 22 .lss 189 t20 t21,Wa 19 t22]) (.c t19 (.q (.R [Ws 3 t4 (.const (.int .i64 (-1)))]) .r) (.q (.R [Wm 24 t6,Wm 25 t7,Wb 26 .gtr 189 t24 t25,Wa 23 t26]) (.c t23 (.q (.R [Ws 3 t4 (Wk 1)]) .r) .s)))))))))) (.q (.R [Ws 3 t4 (Wk 0)]) .r))):=by kernel_rfl
theorem w193:Tryz.f193.body.map (Qq C)=some (.q (.R [.n 2 (.box 23 t0),Wa 4 (.const (.slice none 0 0))]) (.q (.q (.R [Wm 6 t1]) (.b 0 (.f t6 #[7] (.R [Wa 5 t7]) (.b 1 (.R [Wl 8 23 t2,Wm 9 t5,.n 10 (.buildSlice 23 1 #[(0,t9)]),.n 11 (.call ⟨.builtin .append,#[t8,t10],#[23,23]⟩),Ws 23 t2 t11]))))) (.q (.R [Wl 12 23 t2,Wa 4 t12]) .r))):=by kernel_rfl
theorem w201:Tryz.f201.body.map (Qq C)=some (.q (.R [Wl 4 68 t1,Wm 5 t0,.n 6 (.convert 189 162 t5),.n 7 (.buildSlice 68 1 #[(0,t6)]),.n 8 (.call ⟨.builtin .append,#[t4,t7],#[68,68]⟩),Ws 68 t1 t8]) (.R [Wm 9 t0,.n 10 (.binOp .shr 189 t9 (.const (.int .u64 32)) 191),Ws 189 t2 t10])):=by kernel_rfl
theorem w209:Tryz.f209.body.map (Qq C)=some (.q (.R [.n 2 (.box 68 t0),.n 3 (.box 3 t1),Wa 4 (.const (.slice none 0 0))]) (.q (.R [Wl 5 3 t3,.n 6 (.call ⟨.builtin .max,#[t5,Wk 0],#[3,3]⟩),Ws 3 t3 t6]) (.q (.q (.R [Wl 7 3 t3,Wb 8 .quo 3 t7 (Wk 32),Wl 9 68 t2,Wn 10 t9 68,Wb 11 .geq 3 t8 t10]) (.c t11 (.q (.R [Wa 4 (.const (.slice none 0 0))]) .r) .s)) (.q (.R [Wl 12 68 t2,Wn 13 t12 68,.n 14 (.makeFunc (.func 224) #[] #[t3,t2]),Wc 15 182 #[t13,t14] #[3,206],Wa 4 t15]) .r)))):=by kernel_rfl
theorem w224:Tryz.f224.body.map (Qq C)=some (.q (.R [Wa 4 (.const (.int .u64 0))]) (.q (.R [Wm 5 t0,Wl 6 3 t1,Wb 7 .quo 3 t6 (Wk 32),Wb 8 .add 3 t5 t7,Wa 0 t8]) (.q (.D true [Wl 9 68 t2,Wm 10 t0,Wb 11 .add 3 t10 (Wk 1),Wc 12 184 #[t9,t11] #[68,3],.n 13 (.binOp .shl 189 t12 (.const (.int .u64 32)) 191),Wl 14 68 t2,Wm 15 t0,Wc 16 184 #[t14,t15] #[68,3],Wb 17 .or 189 t13 t16,Wl 18 3 t1,Wb 19 .rem 3 t18 (Wk 32),.n 20 (.binOp .shr 189 t17 t19 3),Wb 21 .and 189 t20 (.const (.int .u64 4294967295)),Wa 4 t21]) .r))):=by kernel_rfl
theorem w10:Tryz.f10.body.map (Qq C)=some (.q (.R [.n 4 (.box 25 t1),Wv 6 34,Wa 7 (Wk 0)]) (.q (.R [Wm 10 t2,Wi 11 29 t10 (Wk 0),Wl 12 34 t11,Wv 8 34,Ws 34 t8 t12]) (.q (.R [Wm 13 t0,Wl 14 25 t4,Wf 15 34 t8 0,Wl 16 31 t15,Wn 17 t16 31,Wc 18 24 #[t13,t14,t17] #[3,25,3],Wa 9 t18]) (.q (.q (.R [Wf 19 25 t4 0,Wl 20 22 t19]) (.b 0 (.q (.R [Wb 22 .eql 22 t20 (Wk 1),Wa 21 t22]) (.c t21 (.q (.D true [Wl 23 34 t8,Wm 24 t2,Wi 25 29 t24 (Wk 1),Wl 26 34 t25,Wc 27 25 #[t23,t26] #[34,34],We 28 t27 0,We 29 t27 1,Ws 34 t6 t28,Wa 7 t29]) .r) (.q (.R [Wb 31 .eql 22 t20 (Wk 2),Wa 30 t31]) (.c t30 (.q (.D true [Wl 32 34 t8,Wm 33 t2,Wi 34 29 t33 (Wk 1),Wl 35 34 t34,Wc 36 26 #[t32,t35] #[34,34],We 37 t36 0,We 38 t36 1,Ws 34 t6 t37,Wa 7 t38]) .r) (.q (.R [Wb 40 .eql 22 t20 (Wk 3),Wa 39 t40]) (.c t39 (.q (.D true [Wl 41 34 t8,Wm 42 t2,Wi 43 29 t42 (Wk 1),Wl 44 34 t43,Wc 45 27 #[t41,t44] #[34,34],We 46 t45 0,We 47 t45 1,Ws 34 t6 t46,Wa 7 t47]) .r) (.q (.R [Wb 49 .eql 22 t20 (Wk 4),Wa 48 t49]) (.c t48 (.q (.D true [Wl 50 34 t8,Wm 51 t2,Wi 52 29 t51 (Wk 1),Wl 53 34 t52,Wc 54 28 #[t50,t53] #[34,34],We 55 t54 0,We 56 t54 1,Ws 34 t6 t55,Wa 7 t56]) .r) (.q (.R [Wb 58 .eql 22 t20 (Wk 5),Wa 57 t58]) (.c t57 (.q (.R [Wl 59 34 t8,Wc 60 29 #[t59] #[34],We 61 t60 0,We 62 t60 1,Ws 34 t6 t61,Wa 7 t62]) .r) (.q (.R [Wb 64 .eql 22 t20 (Wk 6),Wa 63 t64]) (.c t63 (.q (.D true [Wl 65 34 t8,Wm 66 t9,Wi 67 23 t66 (Wk 0),Wl 68 3 t67,Wc 69 30 #[t65,t68] #[34,3],We 70 t69 0,We 71 t69 1,Ws 34 t6 t70,Wa 7 t71]) .r) (.q (.R [Wb 73 .eql 22 t20 (Wk 7),Wa 72 t73]) (.c t72 (.q (.R [Wl 74 34 t8,Wc 75 31 #[t74] #[34],We 76 t75 0,We 77 t75 1,Ws 34 t6 t76,Wa 7 t77]) .r) (.q (.R [Wb 79 .eql 22 t20 (Wk 8),Wa 78 t79]) (.c t78 (.q (.R [Wl 80 34 t8,Wc 81 32 #[t80] #[34],We 82 t81 0,We 83 t81 1,Ws 34 t6 t82,Wa 7 t83]) .r) (.q (.R [Wb 85 .eql 22 t20 (Wk 9),Wa 84 t85]) (.c t84 (.q (.D true [Wl 86 34 t8,Wm 87 t9,Wi 88 23 t87 (Wk 0),Wl 89 3 t88,Wm 90 t9,Wi 91 23 t90 (Wk 1),Wl 92 3 t91,Wc 93 35 #[t89,t92] #[3,3],Wc 94 34 #[t93] #[56],Wc 95 33 #[t86,t94] #[34,70],We 96 t95 0,We 97 t95 1,Ws 34 t6 t96,Wa 7 t97]) .r) (.q (.R [Wb 99 .eql 22 t20 (Wk 10),Wa 98 t99]) (.c t98 (.q (.D true [Wl 100 34 t8,Wm 101 t2,Wi 102 29 t101 (Wk 1),Wl 103 34 t102,Wc 104 36 #[t100,t103] #[34,34],We 105 t104 0,We 106 t104 1,Ws 34 t6 t105,Wa 7 t106]) .r) (.q (.R [Wb 108 .eql 22 t20 (Wk 19),Wa 107 t108]) (.c t107 (.q (.D true [Wl 109 34 t8,Wm 110 t2,Wi 111 29 t110 (Wk 1),Wl 112 34 t111,Wm 113 t2,Wi 114 29 t113 (Wk 2),Wl 115 34 t114,Wc 116 37 #[t109,t112,t115] #[34,34,34],We 117 t116 0,We 118 t116 1,Ws 34 t6 t117,Wa 7 t118]) .r) (.q (.R [Wb 120 .eql 22 t20 (Wk 11),Wa 119 t120]) (.c t119 (.q (.R [Wl 121 34 t8,Wm 122 t9,Wc 123 38 #[t121,t122] #[34,23],We 124 t123 0,We 125 t123 1,Ws 34 t6 t124,Wa 7 t125]) .r) (.q (.R [Wb 127 .eql 22 t20 (Wk 12),Wa 126 t127]) (.c t126 (.q (.R [Wl 128 34 t8,Wm 129 t9,Wc 130 39 #[t128,t129] #[34,31],We 131 t130 0,We 132 t130 1,Ws 34 t6 t131,Wa 7 t132]) .r) (.q (.R [Wb 134 .eql 22 t20 (Wk 13),Wa 133 t134]) (.c t133 (.q (.R [Wl 135 34 t8,Wm 136 t9,Wc 137 40 #[t135,t136] #[34,31],We 138 t137 0,We 139 t137 1,Ws 34 t6 t138,Wa 7 t139]) .r) (.q (.R [Wb 141 .eql 22 t20 (Wk 14),Wa 140 t141]) (.c t140 (.q (.R [Wl 142 34 t8,Wm 143 t9,Wc 144 41 #[t142,t143] #[34,23],We 145 t144 0,We 146 t144 1,Ws 34 t6 t145,Wa 7 t146]) .r) (.q (.R [Wb 148 .eql 22 t20 (Wk 20),Wa 147 t148]) (.c t147 (.q (.R [Wl 149 34 t8,Wm 150 t9,Wc 151 42 #[t149,t150] #[34,23],We 152 t151 0,We 153 t151 1,Ws 34 t6 t152,Wa 7 t153]) .r) (.q (.R [Wb 155 .eql 22 t20 (Wk 15),Wa 154 t155]) (.c t154 (.q (.R [Wl 156 34 t8,Wm 157 t9,Wc 158 43 #[t156,t157] #[34,23],We 159 t158 0,We 160 t158 1,Ws 34 t6 t159,Wa 7 t160]) .r) (.q (.R [Wb 162 .eql 22 t20 (Wk 16),Wa 161 t162]) (.c t161 (.q (.R [Wl 163 34 t8,Wm 164 t9,Wc 165 44 #[t163,t164] #[34,23],We 166 t165 0,We 167 t165 1,Ws 34 t6 t166,Wa 7 t167]) .r) (.q (.R [Wb 169 .eql 22 t20 (Wk 17),Wa 168 t169]) (.c t168 (.q (.R [Wm 170 t9,Wi 171 23 t170 (Wk 0),Wl 172 3 t171,Wm 173 t2,Wc 174 45 #[t172,t173] #[3,29],We 175 t174 0,We 176 t174 1,Ws 34 t6 t175,Wa 7 t176]) .r) .s)))))))))))))))))))))))))))))))))))))))) (.q (.R [Wl 177 34 t8,Wl 178 34 t8,Wc 179 27 #[t177,t178] #[34,34],We 180 t179 0,We 181 t179 1,Ws 34 t6 t180,Wa 7 t181]) .r))))):=by kernel_rfl
theorem w18:Tryz.f18.body.map (Qq C)=some (.q (.R [.n 3 (.box 56 t1),Wv 4 52]) (.q (.R [Wm 7 t0,.n 8 (.call ⟨.builtin .append,#[.const (.slice none 0 0),t7],#[23,23]⟩),.n 9 (.build 52 #[(0,t8)]),Wv 5 52,Ws 52 t5 t9]) (.q (.q (.R [Wa 6 (Wk 0)]) (.b 0 (.l (.q (.q (.R [Wm 10 t6,Wm 11 t0,Wc 12 7 #[t11] #[23],Wb 13 .lss 3 t10 t12]) (.c t13 .s (.x 0))) (.q (.b 1 (.R [Wf 16 52 t5 1,Wl 17 50 t16,Wl 18 56 t3,.n 19 (.buildSlice 50 1 #[(0,t18)]),.n 20 (.call ⟨.builtin .append,#[t17,t19],#[50,50]⟩),Wf 21 52 t5 1,Ws 50 t21 t20])) (.R [Wm 14 t6,Wb 15 .add 3 t14 (Wk 1),Wa 6 t15])))))) (.q (.R [Wl 22 52 t5,Ws 52 t4 t22]) .r)))):=by kernel_rfl
theorem w26:Tryz.f26.body.map (Qq C)=some (.q (.R [.n 2 (.box 34 t0),.n 3 (.box 34 t1),Wv 4 34,Wa 5 (Wk 0)]) (.q (.D true [Wl 6 34 t2,Wl 7 34 t3,Wc 8 69 #[.func 71] #[104],Wc 9 68 #[t6,t7,t8] #[34,34,102],We 10 t9 0,We 11 t9 1,Ws 34 t4 t10,Wa 5 t11]) .r)):=by kernel_rfl
theorem w34:Tryz.f34.body.map (Qq C)=some (.q (.R [.n 1 (.box 56 t0),Wv 2 70]) (.q (.D true [Wf 3 56 t1 0,Wl 4 4 t3,Wf 5 56 t1 1,Wl 6 54 t5,Wc 7 85 #[t6] #[54],Wf 8 56 t1 2,Wl 9 54 t8,Wc 10 85 #[t9] #[54],.n 11 (.build 70 #[(0,t4),(1,t7),(2,t10)]),Ws 70 t2 t11]) .r)):=by kernel_rfl
theorem w42:Tryz.f42.body.map (Qq C)=some (.q (.R [.n 2 (.box 34 t0),Wv 4 34,Wa 5 (Wk 0)]) (.q (.R [Wl 11 34 t2,Wm 12 t1,Wc 13 41 #[t11,t12] #[34,23],Wm 10 t13,We 14 t10 0,We 15 t10 1,Wv 6 34,Ws 34 t6 t14,Wa 7 t15]) (.q (.q (.R [Wm 16 t7,Wb 17 .neq 36 t16 (Wk 0)]) (.c t17 (.q (.R [.n 18 (.build 34 #[]),Wm 19 t7,Ws 34 t4 t18,Wa 5 t19]) .r) .s)) (.q (.R [Wf 21 34 t6 1,Wl 22 32 t21,Wn 23 t22 32,Wf 24 34 t2 1,Wl 25 32 t24,Wn 26 t25 32,Wc 27 100 #[t23,t26] #[2,2],Wm 20 t27,We 28 t20 0,We 29 t20 1,Wv 8 70,Ws 70 t8 t28,Wa 9 t29]) (.q (.R [Wl 30 34 t6,Wl 31 70 t8,Wc 32 33 #[t30,t31] #[34,70],We 33 t32 0,We 34 t32 1,Ws 34 t4 t33,Wa 5 t34]) .r))))):=by kernel_rfl
theorem w50:Tryz.f50.body.map (Qq C)=some (.q (.R [.n 2 (.box 82 t0),Wa 4 Wo]) (.q (.R [Wm 5 t1,Wf 6 82 t2 2,Wl 7 3 t6,Wb 8 .geq 3 t5 t7,Wm 9 t8,.g (some 10) (.move t1) 9 true,.g (some 11) (.fieldAddr 82 t2 3) 9 true,.g (some 12) (.load 3 t11) 9 true,.g (some 13) (.binOp .leq 3 t10 t12 3) 9 true,.n 14 (.pick t9 t13 Wo),Wa 4 t14]) .r)):=by kernel_rfl
theorem w58:Tryz.f58.body.map (Qq C)=some (.q (.R [Wa 4 (Wk 0)]) (.q (.q (.R [Wm 11 t0,Wm 12 t1,.n 13 (.buildSlice 26 2 #[(0,t11),(1,t12)]),Wn 14 t13 26,Wm 15 (Wk 0)]) (.b 0 (.l (.q (.R [Wb 16 .lss 3 t15 t14]) (.q (.c t16 .s (.x 0)) (.q (.b 1 (.q (.R [Wi 17 26 t13 t15,Wl 18 31 t17,Wa 6 t18]) (.q (.R [Wm 19 t6,Wc 20 21 #[t19] #[31],Wa 7 t20]) (.q (.R [Wm 21 t7,Wb 22 .neq 36 t21 (Wk 0)]) (.c t22 (.q (.R [Wm 23 t7,Wa 4 t23]) .r) .s))))) (.R [Wb 24 .add 3 t15 (Wk 1),Wm 15 t24]))))))) (.q (.R [Wm 25 t1,Wn 26 t25 31,Wm 27 t0,Wn 28 t27 31,Wb 29 .sub 3 t26 t28,Wa 8 t29]) (.q (.q (.R [Wm 30 t8,Wb 31 .lss 3 t30 (Wk 0)]) (.c t31 (.q (.R [Wa 4 (Wk 13)]) .r) .s)) (.q (.q (.R [Wm 32 t0,Wn 33 t32 31,Wm 34 (Wk 0)]) (.b 2 (.l (.q (.R [Wb 35 .lss 3 t34 t33]) (.q (.c t35 .s (.x 2)) (.q (.b 3 (.q (.R [Wm 36 t34,Wi 37 31 t32 t34,Wl 38 3 t37,Wa 9 t36,Wa 10 t38]) (.q (.R [Wm 39 t10,Wb 40 .neq 3 t39 (Wk 1),Wm 41 t40,.g (some 42) (.move t10) 41 true,.g (some 43) (.move t1) 41 true,.g (some 44) (.move t8) 41 true,.g (some 45) (.move t9) 41 true,.g (some 46) (.binOp .add 3 t44 t45 3) 41 true,.g (some 47) (.indexAddr 31 t43 t46) 41 true,.g (some 48) (.load 3 t47) 41 true,.g (some 49) (.binOp .neq 3 t42 t48 3) 41 true,.n 50 (.pick t41 t49 Wo)]) (.c t50 (.q (.R [Wa 4 (Wk 13)]) .r) .s)))) (.R [Wb 51 .add 3 t34 (Wk 1),Wm 34 t51]))))))) (.q (.R [Wa 4 (Wk 0)]) .r)))))):=by kernel_rfl
theorem w66:Tryz.f66.body.map (Qq C)=some (.q (.R [Wa 4 (.const (.slice none 0 0)),Wa 5 (Wk 0)]) (.q (.R [Wm 10 t1,Wi 11 26 t10 (Wk 0),Wl 12 31 t11,Wa 6 t12]) (.q (.q (.R [Wm 13 t0,Wm 14 t6,Wn 15 t14 31,Wb 16 .geq 3 t13 t15]) (.c t16 (.q (.R [Wa 4 (.const (.slice none 0 0)),Wa 5 (Wk 13)]) .r) .s)) (.q (.R [Wm 17 t6,Wc 18 53 #[t17] #[31],Wa 7 t18]) (.q (.q (.R [Wm 19 t1,.n 20 (.slice 26 t19 (some (Wk 1)) none none),Wn 21 t20 26,Wm 22 (Wk 0)]) (.b 0 (.l (.q (.R [Wb 23 .lss 3 t22 t21]) (.q (.c t23 .s (.x 0)) (.q (.b 1 (.q (.R [Wi 24 26 t20 t22,Wl 25 31 t24,Wa 9 t25]) (.q (.q (.R [Wm 26 t9,Wn 27 t26 31,Wm 28 t6,Wn 29 t28 31,Wb 30 .neq 3 t27 t29,Wm 31 t30,.g (some 32) (.move t9) 31 false,.g (some 33) (.move t0) 31 false,.g (some 34) (.buildSlice 23 1 #[(0,t33)]) 31 false,.g (some 35) (.call ⟨.value (.func 62),#[t32,t34],#[31,23]⟩) 31 false,.g (some 36) (.move t6) 31 false,.g (some 37) (.move t0) 31 false,.g (some 38) (.buildSlice 23 1 #[(0,t37)]) 31 false,.g (some 39) (.call ⟨.value (.func 62),#[t36,t38],#[31,23]⟩) 31 false,.g (some 40) (.call ⟨.value (.func 56),#[t35,t39],#[31,31]⟩) 31 false,.g (some 41) (.unOp .not 4 t40) 31 false,.n 42 (.pick t31 Wt t41)]) (.c t42 (.q (.R [Wa 4 (.const (.slice none 0 0)),Wa 5 (Wk 13)]) .r) .s)) (.D true [Wm 43 t7,Wm 44 t0,Wi 45 31 t43 t44,Wl 46 3 t45,Wm 47 t9,Wm 48 t0,Wi 49 31 t47 t48,Wl 50 3 t49,Wb 51 .add 3 t46 t50,Wi 52 31 t43 t44,Ws 3 t52 t51])))) (.R [Wb 53 .add 3 t22 (Wk 1),Wm 22 t53]))))))) (.q (.R [Wm 54 t7,Wc 55 113 #[t54] #[31],We 56 t55 0,We 57 t55 1,Wa 4 t56,Wa 5 t57]) .r)))))):=by kernel_rfl
theorem w74:Tryz.f74.body.map (Qq C)=some (.q (.R [.n 2 (.box 34 t0),Wv 4 34,Wa 5 (Wk 0)]) (.q (.q (.R [Wl 10 34 t2,Wc 11 76 #[t10] #[34],Wa 6 t11]) (.q (.R [Wm 12 t6,Wb 13 .neq 36 t12 (Wk 0)]) (.c t13 (.q (.R [.n 14 (.build 34 #[]),Wm 15 t6,Ws 34 t4 t14,Wa 5 t15]) .r) .s))) (.q (.R [Wf 16 34 t2 0,Wl 17 31 t16,Wc 18 53 #[t17] #[31],.n 19 (.build 34 #[(0,t18)]),Wv 7 34,Ws 34 t7 t19]) (.q (.q (.R [Wf 20 34 t2 1,Wl 21 32 t20,Wn 22 t21 32,Wm 23 (Wk 0)]) (.b 0 (.l (.q (.R [Wb 24 .lss 3 t23 t22]) (.q (.c t24 .s (.x 0)) (.q (.b 1 (.q (.R [Wi 25 32 t21 t23,Wl 26 70 t25,Wv 9 70,Ws 70 t9 t26]) (.U [Wf 27 34 t7 1,Wl 28 32 t27,Wm 29 t1,Wl 30 70 t9,.n 31 (.call ⟨.value t29,#[t30],#[70]⟩),.n 32 (.buildSlice 32 1 #[(0,t31)]),.n 33 (.call ⟨.builtin .append,#[t28,t32],#[32,32]⟩),Wf 34 34 t7 1,Ws 32 t34 t33]))) (.R [Wb 35 .add 3 t23 (Wk 1),Wm 23 t35]))))))) (.q (.R [Wl 36 34 t7,Ws 34 t4 t36,Wa 5 (Wk 0)]) .r))))):=by kernel_rfl
theorem w82:Tryz.f82.body.map (Qq C)=some (.q (.R [.n 1 (.box 70 t0),Wv 2 70]) (.q (.R [Wf 6 70 t1 0,Wl 7 4 t6,Wf 8 70 t1 1,Wl 9 68 t8,Wf 10 70 t1 2,Wl 11 68 t10,Wc 12 129 #[t7,t9,t11] #[4,68,68],Wm 5 t12,We 13 t5 0,We 14 t5 1,Wv 3 70,Ws 70 t3 t13,Wa 4 t14]) (.q (.q (.R [Wm 15 t4,Wb 16 .neq 36 t15 (Wk 0)]) (.c t16 (.q (.R [Wc 17 128 #[] #[],.n 18 (.build 70 #[(2,t17)]),Ws 70 t2 t18]) .r) .s)) (.q (.R [Wl 19 70 t3,Ws 70 t2 t19]) .r)))):=by kernel_rfl
theorem w90:Tryz.f90.body.map (Qq C)=some (.q (.R [Wa 4 (Wk 0)]) (.q (.R [Wm 8 t0,Wc 9 137 #[t8] #[23],Wc 10 136 #[t9] #[169],Wa 5 t10]) (.q (.q (.R [Wm 11 t5,Wn 12 t11 23,Wm 13 (Wk 0)]) (.b 0 (.l (.q (.R [Wb 14 .lss 3 t13 t12]) (.q (.c t14 .s (.x 0)) (.q (.b 1 (.q (.R [Wm 15 t13,Wi 16 23 t11 t13,Wl 17 3 t16,Wa 6 t15,Wa 7 t17]) (.q (.R [Wm 18 t7,Wm 19 t6,Wb 20 .neq 3 t18 t19]) (.c t20 (.q (.R [Wa 4 (Wk 11)]) .r) .s)))) (.R [Wb 21 .add 3 t13 (Wk 1),Wm 13 t21]))))))) (.q (.q (.R [Wm 22 t5,Wn 23 t22 23,Wm 24 t1,.n 25 (.call ⟨.builtin .max,#[t24,Wk 0],#[3,3]⟩),Wb 26 .neq 3 t23 t25]) (.c t26 (.q (.R [Wa 4 (Wk 11)]) .r) .s)) (.q (.R [Wa 4 (Wk 0)]) .r))))):=by kernel_rfl
theorem w98:Tryz.f98.body.map (Qq C)=some (.q (.R [Wa 5 (Wk 0)]) (.q (.R [Wf 11 34 t1 0,Wl 12 31 t11,Wm 13 t0,Wc 14 88 #[t12,t13] #[31,3],Wm 10 t14,We 15 t10 0,We 16 t10 1,Wa 6 t15,Wa 7 t16]) (.q (.D true [Wf 18 34 t2 0,Wl 19 31 t18,Wm 20 t6,Wl 21 23 t3,Wc 22 62 #[t20,t21] #[31,23],Wc 23 99 #[t19,t22] #[31,23],Wm 17 t23,We 24 t17 0,We 25 t17 1,Wa 8 t24,Wa 9 t25]) (.q (.R [Wm 26 t8,Wa 5 t26]) .r)))):=by kernel_rfl
theorem w106:Tryz.f106.body.map (Qq C)=some (.q (.R [Wv 4 70,Wa 5 Wo]) (.q (.R [Wm 11 t0,Wc 12 54 #[t11] #[23],Wa 6 t12]) (.q (.q (.R [Wl 13 29 t1,Wn 14 t13 29,Wm 15 (Wk 0)]) (.b 0 (.l (.q (.R [Wb 16 .lss 3 t15 t14]) (.q (.c t16 .s (.x 0)) (.q (.b 1 (.q (.R [Wi 17 29 t13 t15,Wl 18 34 t17,Wv 8 34,Ws 34 t8 t18]) (.q (.q (.R [Wf 20 34 t8 0,Wl 21 31 t20,Wm 22 t6,Wc 23 99 #[t21,t22] #[31,23],Wm 19 t23,We 24 t19 0,We 25 t19 1,Wa 9 t24,Wa 10 t25]) (.q (.R [Wm 26 t10,Wb 27 .eql 36 t26 (Wk 0)]) (.c t27 (.q (.R [Wf 28 34 t8 1,Wl 29 32 t28,Wm 30 t9,Wi 31 32 t29 t30,Wl 32 70 t31,Ws 70 t4 t32,Wa 5 Wt]) .r) .s))) (.D true [Wm 33 t6,Wl 34 3 t2,Wi 35 23 t33 t34,Wl 36 3 t35,Wf 37 34 t8 0,Wl 38 31 t37,Wl 39 3 t2,Wi 40 31 t38 t39,Wl 41 3 t40,Wb 42 .sub 3 t36 t41,Wi 43 23 t33 t34,Ws 3 t43 t42])))) (.R [Wb 44 .add 3 t15 (Wk 1),Wm 15 t44]))))))) (.q (.R [.n 45 (.build 70 #[]),Ws 70 t4 t45,Wa 5 Wo]) .r)))):=by kernel_rfl
theorem w114:Tryz.f114.body.map (Qq C)=some (.q (.R [Wa 6 (.const (.slice none 0 0))]) (.q (.q (.R [Wm 9 t0,Wn 10 t9 31,Wm 11 (Wk 0)]) (.b 0 (.l (.q (.R [Wb 12 .lss 3 t11 t10]) (.q (.c t12 .s (.x 0)) (.q (.b 1 (.q (.R [Wm 13 t11,Wi 14 31 t9 t11,Wl 15 3 t14,Wa 7 t13,Wa 8 t15]) (.q (.R [Wm 16 t1,Wm 17 t7,Wc 18 146 #[t16,t17] #[23,3]]) (.c t18 (.R [Wm 19 t2,Wm 20 t6,.n 21 (.call ⟨.value t19,#[t20],#[31]⟩),Wa 6 t21]) (.R [Wm 22 t6,Wm 23 t8,.n 24 (.buildSlice 31 1 #[(0,t23)]),.n 25 (.call ⟨.builtin .append,#[t22,t24],#[31,31]⟩),Wa 6 t25]))))) (.R [Wb 26 .add 3 t11 (Wk 1),Wm 11 t26]))))))) (.q (.R [Wm 27 t6,Wa 6 t27]) .r))):=by kernel_rfl
theorem w122:Tryz.f122.body.map (Qq C)=some (.q (.R [.n 1 (.box 34 t0),Wa 2 (Wk 0)]) (.q (.q (.R [Wf 4 34 t1 0,Wl 5 31 t4,Wc 6 21 #[t5] #[31],Wa 3 t6]) (.q (.R [Wm 7 t3,Wb 8 .neq 36 t7 (Wk 0)]) (.c t8 (.q (.R [Wm 9 t3,Wa 2 t9]) .r) .s))) (.q (.q (.D true [Wf 10 34 t1 1,Wl 11 32 t10,Wn 12 t11 32,Wf 13 34 t1 0,Wl 14 31 t13,Wc 15 60 #[t14] #[31],Wb 16 .neq 3 t12 t15]) (.c t16 (.q (.R [Wa 2 (Wk 13)]) .r) .s)) (.q (.R [Wa 2 (Wk 0)]) .r)))):=by kernel_rfl
theorem w130:Tryz.f130.body.map (Qq C)=some (.q (.R [Wa 4 (.const (.slice none 0 0)),Wa 5 (Wk 0)]) (.q (.R [Wm 10 t0,Wn 11 t10 54,.n 12 (.makeSlice 54 t11 t11),Wa 6 t12]) (.q (.R [Wa 7 (Wk 0)]) (.q (.q (.R [Wm 13 t0,Wn 14 t13 54,Wb 15 .sub 3 t14 (Wk 1),Wa 8 t15]) (.b 0 (.l (.q (.q (.R [Wm 16 t8,Wb 17 .geq 3 t16 (Wk 0)]) (.c t17 .s (.x 0))) (.q (.b 1 (.q (.R [Wm 20 t7,Wb 21 .mul 3 t20 (Wk 10000),Wm 22 t0,Wm 23 t8,Wi 24 54 t22 t23,Wl 25 3 t24,Wb 26 .add 3 t21 t25,Wa 9 t26]) (.q (.R [Wm 27 t6,Wm 28 t8,Wm 29 t9,Wm 30 t1,Wb 31 .quo 3 t29 t30,Wi 32 54 t27 t28,Ws 3 t32 t31]) (.R [Wm 33 t9,Wm 34 t1,Wb 35 .rem 3 t33 t34,Wa 7 t35])))) (.R [Wm 18 t8,Wb 19 .sub 3 t18 (Wk 1),Wa 8 t19])))))) (.q (.R [Wm 36 t6,Wc 37 161 #[t36] #[54],Wm 38 t7,Wa 4 t37,Wa 5 t38]) .r))))):=by kernel_rfl
theorem w138:Tryz.f138.body.map (Qq C)=some (.q (.R [Wv 4 70,Wa 5 Wo]) (.q (.U [Wf 9 34 t1 0,Wl 10 31 t9,Wl 11 88 t2,Wm 12 t0,.n 13 (.call ⟨.value t11,#[t12],#[23]⟩),Wc 14 99 #[t10,t13] #[31,23],Wm 8 t14,We 15 t8 0,We 16 t8 1,Wa 6 t15,Wa 7 t16]) (.q (.q (.R [Wm 17 t7,Wb 18 .neq 36 t17 (Wk 0)]) (.c t18 (.q (.R [.n 19 (.build 70 #[]),Ws 70 t4 t19,Wa 5 Wo]) .r) .s)) (.q (.R [Wf 20 34 t1 1,Wl 21 32 t20,Wm 22 t6,Wi 23 32 t21 t22,Wl 24 70 t23,Ws 70 t4 t24,Wa 5 Wt]) .r)))):=by kernel_rfl
theorem w146:Tryz.f146.body.map (Qq C)=some (.q (.R [Wa 4 Wo]) (.q (.R [Wm 5 t0,Wm 6 t1,Wc 7 180 #[t5,t6] #[23,3],Wb 8 .geq 3 t7 (Wk 0),Wa 4 t8]) .r)):=by kernel_rfl
theorem w154:Tryz.f154.body.map (Qq C)=some (.q (.R [Wa 4 Wo]) (.q (.R [Wm 5 t0,Wn 6 t5 68,Wm 7 t1,Wn 8 t7 68,Wb 9 .eql 3 t6 t8,Wm 10 t9,.g (some 11) (.move t0) 10 true,.g (some 12) (.move t1) 10 true,.g (some 13) (.call ⟨.value (.func 185),#[t11,t12],#[68,68]⟩) 10 true,.g (some 14) (.binOp .eql 3 t13 (Wk 0) 3) 10 true,.n 15 (.pick t10 t14 Wo),Wa 4 t15]) .r)):=by kernel_rfl
theorem w162:Tryz.f162.body.map (Qq C)=some (.q (.R [Wa 2 (.const (.slice none 0 0))]) (.q (.R [Wm 4 t0,Wn 5 t4 54,Wa 3 t5]) (.q (.b 0 (.l (.q (.q (.R [Wm 6 t3,Wb 7 .gtr 3 t6 (Wk 0),Wm 8 t7,.g (some 9) (.move t0) 8 true,.g (some 10) (.move t3) 8 true,.g (some 11) (.binOp .sub 3 t10 (Wk 1) 3) 8 true,.g (some 12) (.indexAddr 54 t9 t11) 8 true,.g (some 13) (.load 3 t12) 8 true,.g (some 14) (.binOp .eql 3 t13 (Wk 0) 3) 8 true,.n 15 (.pick t8 t14 Wo)]) (.c t15 .s (.x 0))) (.b 1 (.R [Wm 16 t3,Wb 17 .sub 3 t16 (Wk 1),Wa 3 t17]))))) (.q (.R [Wm 18 t0,Wm 19 t3,.n 20 (.slice 54 t18 none (some t19) none),Wa 2 t20]) .r)))):=by kernel_rfl
theorem w170:Tryz.f170.body.map (Qq C)=some (.q (.R [Wa 4 (.const (.int .u64 0)),Wa 5 (.const (.int .u64 0))]) (.q (.c Wo (.q (.R [Wm 11 t0,.n 12 (.convert 191 162 t11),Wm 13 t1,.n 14 (.convert 191 162 t13),Wc 15 196 #[t12,t14] #[162,162],Wm 10 t15,We 16 t10 0,We 17 t10 1,Wa 6 t16,Wa 7 t17]) (.q (.R [Wm 18 t6,.n 19 (.convert 162 191 t18),Wm 20 t7,.n 21 (.convert 162 191 t20),Wa 4 t19,Wa 5 t21]) .r)) .s) (.q (.R [Wm 23 t0,Wm 24 t1,Wc 25 197 #[t23,t24] #[189,189],Wm 22 t25,We 26 t22 0,We 27 t22 1,Wa 8 t26,Wa 9 t27]) (.q (.R [Wm 28 t8,Wm 29 t9,Wa 4 t28,Wa 5 t29]) .r)))):=by kernel_rfl
theorem w178:Tryz.f178.body.map (Qq C)=some (.q (.R [Wa 4 Wo]) (.q (.R [Wm 5 t0,Wb 6 .geq 3 t5 (Wk 0),Wm 7 t6,.g (some 8) (.move t1) 7 true,.g (some 9) (.move t0) 7 true,.g (some 10) (.binOp .gtr 3 t8 t9 3) 7 true,.n 11 (.pick t7 t10 Wo),Wa 4 t11]) .r)):=by kernel_rfl
theorem w186:Tryz.f186.body.map (Qq C)=some (.q (.R [Wa 5 (.const (.int .u64 0))]) (.q (.D true [Wl 8 68 t1,Wm 9 t0,Wc 10 184 #[t8,t9] #[68,3],Wl 11 68 t2,Wm 12 t0,Wc 13 184 #[t11,t12] #[68,3],Wl 14 189 t3,Wb 15 .add 189 t13 t14,Wa 6 t10,Wa 7 t15]) (.q (.R [Ws 189 t3 (.const (.int .u64 0))]) (.q (.q (.R [Wm 16 t6,Wm 17 t7,Wb 18 .lss 189 t16 t17]) (.c t18 (.R [Wm 19 t6,Wb 20 .add 189 t19 (.const (.int .u64 4294967296)),Wa 6 t20,Ws 189 t3 (.const (.int .u64 1))]) .s)) (.q (.R [Wm 21 t6,Wm 22 t7,Wb 23 .sub 189 t21 t22,Wa 5 t23]) .r))))):=by kernel_rfl
theorem w194:Tryz.f194.body.map (Qq C)=some (.q (.R [Wa 8 Wt]) (.q (.R [Wa 9 Wt]) (.b 0 (.l (.b 1 (.q (.R [Wm 19 t2,Wm 20 t1,Wb 21 .sub 3 t19 t20,Wa 10 t21]) (.q (.q (.R [Wm 22 t10,Wb 23 .leq 3 t22 (Wk 12)]) (.c t23 (.q (.R [Wm 24 t0,Wm 25 t1,Wm 26 t2,Wc 27 210 #[t24,t25,t26] #[23,3,3]]) .r) .s)) (.q (.q (.R [Wm 28 t3,Wb 29 .eql 3 t28 (Wk 0)]) (.c t29 (.q (.R [Wm 30 t0,Wm 31 t1,Wm 32 t2,Wc 33 211 #[t30,t31,t32] #[23,3,3]]) .r) .s)) (.q (.q (.R [Wm 34 t8,.n 35 (.unOp .not 4 t34)]) (.c t35 (.q (.R [Wm 36 t0,Wm 37 t1,Wm 38 t2,Wc 39 212 #[t36,t37,t38] #[23,3,3]]) (.R [Wm 40 t3,Wb 41 .sub 3 t40 (Wk 1),Wa 3 t41])) .s)) (.q (.R [Wm 43 t0,Wm 44 t1,Wm 45 t2,Wc 46 213 #[t43,t44,t45] #[23,3,3],Wm 42 t46,We 47 t42 0,We 48 t42 1,Wa 11 t47,Wa 12 t48]) (.q (.q (.R [Wm 49 t12,Wb 50 .eql 226 t49 (Wk 2)]) (.c t50 (.q (.R [Wm 51 t0,Wm 52 t1,Wm 53 t2,Wc 54 214 #[t51,t52,t53] #[23,3,3]]) (.q (.R [Wm 55 t2,Wb 56 .sub 3 t55 (Wk 1),Wm 57 t11,Wm 58 t1,Wb 59 .sub 3 t57 t58,Wb 60 .sub 3 t56 t59,Wa 11 t60]) (.R [Wa 12 (Wk 1)]))) .s)) (.q (.q (.R [Wm 61 t8,Wm 62 t61,.g (some 63) (.move t9) 62 true,.n 64 (.pick t62 t63 Wo),Wm 65 t64,.g (some 66) (.move t12) 65 true,.g (some 67) (.binOp .eql 226 t66 (Wk 1) 226) 65 true,.n 68 (.pick t65 t67 Wo)]) (.c t68 (.q (.R [Wm 69 t0,Wm 70 t1,Wm 71 t2,Wc 72 215 #[t69,t70,t71] #[23,3,3]]) (.c t72 .r .s)) .s)) (.q (.q (.D true [Wm 73 t1,Wb 74 .gtr 3 t73 (Wk 0),Wm 75 t74,.g (some 76) (.move t0) 75 true,.g (some 77) (.move t1) 75 true,.g (some 78) (.binOp .sub 3 t77 (Wk 1) 3) 75 true,.g (some 79) (.indexAddr 23 t76 t78) 75 true,.g (some 80) (.load 3 t79) 75 true,.g (some 81) (.move t0) 75 true,.g (some 82) (.move t11) 75 true,.g (some 83) (.indexAddr 23 t81 t82) 75 true,.g (some 84) (.load 3 t83) 75 true,.g (some 85) (.call ⟨.value (.func 216),#[t80,t84],#[3,3]⟩) 75 true,.g (some 86) (.unOp .not 4 t85) 75 true,.n 87 (.pick t75 t86 Wo)]) (.c t87 (.q (.R [Wm 88 t0,Wm 89 t1,Wm 90 t2,Wm 91 t11,Wc 92 217 #[t88,t89,t90,t91] #[23,3,3,3],Wa 13 t92]) (.q (.R [Wm 93 t13,Wa 1 t93]) (.x 1))) .s)) (.q (.R [Wm 95 t0,Wm 96 t1,Wm 97 t2,Wm 98 t11,Wc 99 218 #[t95,t96,t97,t98] #[23,3,3,3],Wm 94 t99,We 100 t94 0,We 101 t94 1,Wa 14 t100,Wa 15 t101]) (.q (.R [Wm 102 t15,Wa 9 t102]) (.q (.R [Wm 103 t14,Wm 104 t1,Wb 105 .sub 3 t103 t104,Wm 106 t2,Wm 107 t14,Wb 108 .sub 3 t106 t107,Wa 16 t105,Wa 17 t108]) (.q (.R [Wm 109 t10,Wb 110 .quo 3 t109 (Wk 8),Wa 18 t110]) (.q (.R [Wm 111 t16,Wm 112 t17,Wb 113 .lss 3 t111 t112]) (.c t113 (.q (.R [Wm 114 t16,Wm 115 t18,Wb 116 .geq 3 t114 t115,Wa 8 t116]) (.q (.R [Wm 117 t0,Wm 118 t1,Wm 119 t14,Wm 120 t3,Wc 121 194 #[t117,t118,t119,t120] #[23,3,3,3]]) (.R [Wm 122 t14,Wb 123 .add 3 t122 (Wk 1),Wa 1 t123]))) (.q (.R [Wm 124 t17,Wm 125 t18,Wb 126 .geq 3 t124 t125,Wa 8 t126]) (.q (.R [Wm 127 t0,Wm 128 t14,Wb 129 .add 3 t128 (Wk 1),Wm 130 t2,Wm 131 t3,Wc 132 194 #[t127,t129,t130,t131] #[23,3,3,3]]) (.R [Wm 133 t14,Wa 2 t133])))))))))))))))))))))):=by kernel_rfl
theorem w202:Tryz.f202.body.map (Qq C)=some (.q (.R [Wa 2 (.const .nilFunc)]) (.q (.R [Wv 3 3,Ws 3 t3 (Wk 0)]) (.q (.q (.R [Wm 6 t0,Wn 7 t6 233,Wm 8 (Wk 0)]) (.b 0 (.l (.q (.R [Wb 9 .lss 3 t8 t7]) (.q (.c t9 .s (.x 0)) (.q (.b 1 (.q (.R [Wi 10 233 t6 t8,Wl 11 68 t10,Wa 5 t11]) (.R [Wl 12 3 t3,Wm 13 t5,Wn 14 t13 68,.n 15 (.call ⟨.builtin .max,#[t12,t14],#[3,3]⟩),Ws 3 t3 t15]))) (.R [Wb 16 .add 3 t8 (Wk 1),Wm 8 t16]))))))) (.q (.R [.n 17 (.makeFunc (.func 220) #[] #[t3]),Wa 2 t17]) .r)))):=by kernel_rfl
theorem w210:Tryz.f210.body.map (Qq C)=some (.q (.R [Wm 8 t1,Wb 9 .add 3 t8 (Wk 1),Wa 6 t9]) (.b 0 (.l (.q (.q (.R [Wm 10 t6,Wm 11 t2,Wb 12 .lss 3 t10 t11]) (.c t12 .s (.x 0))) (.q (.b 1 (.q (.R [Wm 15 t6,Wa 7 t15]) (.b 2 (.l (.q (.q (.D true [Wm 16 t7,Wm 17 t1,Wb 18 .gtr 3 t16 t17,Wm 19 t18,.g (some 20) (.move t0) 19 true,.g (some 21) (.move t7) 19 true,.g (some 22) (.indexAddr 23 t20 t21) 19 true,.g (some 23) (.load 3 t22) 19 true,.g (some 24) (.move t0) 19 true,.g (some 25) (.move t7) 19 true,.g (some 26) (.binOp .sub 3 t25 (Wk 1) 3) 19 true,.g (some 27) (.indexAddr 23 t24 t26) 19 true,.g (some 28) (.load 3 t27) 19 true,.g (some 29) (.call ⟨.value (.func 216),#[t23,t28],#[3,3]⟩) 19 true,.n 30 (.pick t19 t29 Wo)]) (.c t30 .s (.x 2))) (.q (.b 3 (.D true [Wm 33 t0,Wm 34 t7,Wm 35 t0,Wm 36 t7,Wb 37 .sub 3 t36 (Wk 1),Wm 38 t0,Wm 39 t7,Wb 40 .sub 3 t39 (Wk 1),Wi 41 23 t38 t40,Wl 42 3 t41,Wm 43 t0,Wm 44 t7,Wi 45 23 t43 t44,Wl 46 3 t45,Wi 47 23 t33 t34,Ws 3 t47 t42,Wi 48 23 t35 t37,Ws 3 t48 t46])) (.R [Wm 31 t7,Wb 32 .sub 3 t31 (Wk 1),Wa 7 t32]))))))) (.R [Wm 13 t6,Wb 14 .add 3 t13 (Wk 1),Wa 6 t14])))))):=by kernel_rfl
theorem w230:Tryz.f230.body.map (Qq C)=some (.q (.R [Wa 2 Wo]) (.q (.R [Wm 3 t0,Wm 4 t0,Wb 5 .neq 3 t3 t4,Wa 2 t5]) .r)):=by kernel_rfl
end Go.Proofs.YtipmmjebfpbkmaaGreat
end
section

end
section
namespace Go.Proofs.YtipmmjebfpbkmaaGreat
open Go.Bv
def Qx:List Int→Int
 | []=>1
 | d::l=>d*Qx l
theorem Yp:∀ {l:List Int},(∀ d∈l,1≤d)→1≤Qx l
 | [],_=>by simp [Qx]
 | d::l,h=>by
  have h1:=Yp (l:=l) fun d hd=>h d (by simp [hd])
  have h2:=h d (by simp)
  exact Int.mul_pos (by omega) (by omega)
theorem Qgl:∀ (l m:List Int),Qx (l++m)=Qx l*Qx m
 | [],m=>by simp [Qx]
 | d::l,m=>by simp [Qx,Qgl l m,Int.mul_assoc]
theorem Qn2 (l:List Int) (d:Int):Qx (l++[d])=Qx l*d:=by rw [Qgl];simp [Qx]
theorem Jj {xs:List Int} {i:Nat} (h:i<xs.length):Qx (xs.take (i+1))=Qx (xs.take i)*xs.getD i 0:=by
 rw [← Qn2];congr 1;rw [List.take_add_one];simp [List.getD,h]
theorem Qhe {xs:List Int} (h:∀ d∈xs,1≤d) (i:Nat):Qx (xs.take i)≤Qx xs:=by
 have e:Qx xs=Qx (xs.take i)*Qx (xs.drop i):=by rw [← Qgl,List.take_append_drop]
 have h1:=Yp (l:=xs.take i) fun d hd=>h d (List.mem_of_mem_take hd)
 have h2:=Yp (l:=xs.drop i) fun d hd=>h d (List.mem_of_mem_drop hd)
 rw [e]
 have:=Int.mul_le_mul_of_nonneg_left (c:=Qx (xs.take i)) h2 (by omega)
 omega
theorem Xq {xs:List Int} (h:∀ d∈xs,1≤d) {i:Nat} (hi:i<xs.length):xs.getD i 0≤Qx xs:=by
 have h1:=Qhe h (i+1)
 rw [Jj hi] at h1
 have h2:=Yp (l:=xs.take i) fun d hd=>h d (List.mem_of_mem_take hd)
 have h3:1≤xs.getD i 0:=by
  have:xs.getD i 0=xs[i]:=by simp [List.getD,hi]
  rw [this];exact h _ (List.getElem_mem hi)
 have:1*xs.getD i 0≤Qx (xs.take i)*xs.getD i 0:=Int.mul_le_mul_of_nonneg_right h2 (by omega)
 omega
def Xa (xs:List Int):Int:=if xs.length>4 then 14 else if xs.all (fun d=>decide (1≤d)) then (if Qx xs>1024 then 14 else 0) else 13
theorem Qu {xs:List Int} (h:Xa xs=0):xs.length≤4∧(∀ d∈xs,1≤d)∧Qx xs≤1024:=by
 unfold Xa at h;split at h
 ·simp at h
 ·split at h
  ·split at h
   ·simp at h
   ·rename_i h1 h2 h3;exact ⟨by omega,by simpa using h2,by omega⟩
  ·simp at h
def Xf (xs:List Int):Int:=if Xa xs=0 then Qx xs else 0
theorem Qeq {xs ys:List Int} (hl:xs.length=ys.length) (h:∀ j,j<xs.length→xs.getD j 0=ys.getD j 0):xs=ys:=by
 refine List.ext_getElem hl fun i h1 h2=>?_
 have:=h i h1
 simpa [List.getD,h1,h2] using this
theorem Zq {xs:List Int} {p:Int→Prop}:(∀ d∈xs,p d)↔∀ j,j<xs.length→p (xs.getD j 0):=by
 constructor
 ·intro h j hj
  have e:xs.getD j 0=xs[j]:=by simp [List.getD,hj]
  rw [e];exact h _ (List.getElem_mem hj)
 ·intro h d hd;obtain ⟨j,hj,rfl⟩:=List.mem_iff_getElem.1 hd
  have e:xs.getD j 0=xs[j]:=by simp [List.getD,hj]
  rw [← e];exact h j hj
theorem Qbc {p:Nat→Prop} {i:Nat} (h:∀ j,j<i→p j) (hi:p i):∀ j,j<i+1→p j:=by
 intro j hj;by_cases e:j=i
 ·subst e;exact hi
 ·exact h j (by omega)
theorem Qi5 (xs ys:List Int) (hx:xs.length≤17592186044416):Pu C 11 [.sl xs.length (ints xs),.sl ys.length (ints ys)] (.bool (decide (xs=ys))):=by
 refine zK Qf Tryz.func11 w11 Tryz.ntmps11 Tryz.results11 ?_
 (refine zG ?_;(repeat' ((with_reducible apply zBr)<;>intro h<;>refine zG ?_))<;>try exact .intro)
 ·skip
  (refine Qo (by intro g;simp only [go_sem,ren,Qk]) ?_)
  congr 1;symm;simp;rintro rfl;exact h rfl
 ·skip
  refine Qj (fun n ts H=>∃ i,(i≤xs.length)∧(∀ j,j<i→xs.getD j 0=ys.getD j 0)∧(n=xs.length - i)∧(H=[])∧ts.length=26∧nth ts 0=.sl xs.length (ints xs)∧nth ts 1=.sl ys.length (ints ys)∧nth ts 5=.int .i64 i) ?_ (n:=xs.length) ?_
  ·skip
   rintro n ts H ⟨i,hi,he,hn,hH,hL,hs0,hs1,hs5⟩;refine Xc [(0,.sl xs.length (ints xs)),(1,.sl ys.length (ints ys)),(5,.int .i64 i)] hL (by simp only [zFm,hs0,hs1,hs5,true_and];exact zNm) ?_
   clear hL hs0 hs1 hs5 ts
   refine Qz Qf ?_;subst hH hn
   (refine zG ?_;(repeat' ((with_reducible apply zBr)<;>intro h<;>refine zG ?_))<;>try exact .intro)
   ·skip
    (refine Qo (by intro g;simp only [go_sem,ren,Qk]) ?_)
    congr 1;symm;simp;rintro rfl;exact h rfl
   ·exact ⟨_,by omega,i+1,by omega,Qbc he h,rfl,(by (repeat' apply And.intro)<;>(first | rfl | omega | (congr 1;omega) | assumption | (congr 1;assumption)))⟩
   ·skip
    (refine Qo (by intro g;simp only [go_sem,ren,Qk]) ?_)
    congr 1;symm;simp;exact Qeq (by omega) fun j hj=>he j (by omega)
  ·exact ⟨0,by omega,fun j hj=>by omega,rfl,rfl,rfl,rfl,rfl,rfl⟩
theorem Qis (xs:List Int) (hlx:xs.length≤17592186044416):Pu C 6 [.sl xs.length (ints xs)] (.int .i64 (Xa xs)):=by
 refine zK Qf Tryz.func6 w6 Tryz.ntmps6 Tryz.results6 ?_
 (refine zG ?_;(repeat' ((with_reducible apply zBr)<;>intro h<;>refine zG ?_))<;>try exact .intro)
 ·skip
  (refine Qo (by intro g;simp only [go_sem,ren,Qk]) ?_)
  congr 1;symm;rw [Xa,if_pos (by omega)]
 ·skip
  refine Qj (fun n ts H=>∃ i,(i≤xs.length)∧(∀ j,j<i→1≤xs.getD j 0)∧(n=xs.length - i)∧(H=[])∧ts.length=39∧nth ts 0=.sl xs.length (ints xs)∧nth ts 3=.int .i64 i) ?_ (n:=xs.length) ?_
  ·skip
   rintro n ts H ⟨i,hi,ha,hn,hH,hL,hs0,hs3⟩;refine Xc [(0,.sl xs.length (ints xs)),(3,.int .i64 i)] hL (by simp only [zFm,hs0,hs3,true_and];exact zNm) ?_
   clear hL hs0 hs3 ts
   refine Qz Qf ?_;subst hH hn
   (refine zG ?_;(repeat' ((with_reducible apply zBr)<;>intro h<;>refine zG ?_))<;>try exact .intro)
   ·skip
    (refine Qo (by intro g;simp only [go_sem,ren,Qk]) ?_)
    congr 1;symm;rw [Xa,if_neg (by omega),if_neg]
    intro hall;have:=Zq.1 (by simpa using hall) i (by omega);omega
   ·exact ⟨_,by omega,i+1,by omega,Qbc ha (by omega),rfl,(by (repeat' apply And.intro)<;>(first | rfl | omega | (congr 1;omega) | assumption | (congr 1;assumption)))⟩
   ·have hall:∀ d∈xs,1≤d:=Zq.2 fun j hj=>ha j (by omega)
    have hall':xs.all (fun d=>decide (1≤d))=true:=by simpa using hall
    refine Qj (fun n ts H=>∃ k,(k≤xs.length)∧(Qx (xs.take k)≤1024)∧(n=xs.length - k)∧(H=[])∧ts.length=39∧nth ts 0=.sl xs.length (ints xs)∧nth ts 4=.int .i64 (Qx (xs.take k))∧nth ts 5=.int .i64 k) ?_ (n:=xs.length) ?_
    ·skip
     rintro n ts H ⟨k,hk,hm,hn,hH,hL,hs0,hs4,hs5⟩;refine Xc [(0,.sl xs.length (ints xs)),(4,.int .i64 (Qx (xs.take k))),(5,.int .i64 k)] hL (by simp only [zFm,hs0,hs4,hs5,true_and];exact zNm) ?_
     clear hL hs0 hs4 hs5 ts
     refine Qz Qf ?_;subst hH hn
     have hm1:=Yp (l:=xs.take k) fun d hd=>hall d (List.mem_of_mem_take hd)
     by_cases hlt:k<xs.length
     ·have hx1:=Zq.1 hall k hlt
      have hle:=Xq hall hlt
      have hle2:=Qhe hall (k+1)
      rw [Jj hlt] at hle2;by_cases h4:1024<xs.getD k 0
      ·skip
       refine zG ?_
       (refine Qo (by intro g;simp only [go_sem,ren,Qk]) ?_)
       congr 1;symm;rw [Xa,if_neg (by omega),if_pos hall',if_pos (by omega)]
      ·have hb:Qx (xs.take k)*xs.getD k 0≤1024*1024:=Int.mul_le_mul hm (by omega) (by omega) (by omega)
       have hb0:0≤Qx (xs.take k)*xs.getD k 0:=Int.mul_nonneg (by omega) (by omega)
       (refine zG ?_;(repeat' ((with_reducible apply zBr)<;>intro h<;>refine zG ?_))<;>try exact .intro)
       ·skip
        (refine Qo (by intro g;simp only [go_sem,ren,Qk]) ?_)
        congr 1;symm;rw [Xa,if_neg (by omega),if_pos hall',if_pos (by omega)]
       ·exact ⟨_,by omega,k+1,by omega,by rw [Jj hlt];omega,rfl,by rw [Jj hlt],rfl⟩
     ·have e:xs.take k=xs:=List.take_of_length_le (by omega)
      rw [e] at hm;refine zG ?_
      (refine Qo (by intro g;simp only [go_sem,ren,Qk]) ?_)
      congr 1;symm;rw [Xa,if_neg (by omega),if_pos hall',if_neg (by omega)]
    ·exact ⟨0,by omega,by simp [Qx],rfl,rfl,rfl,rfl,rfl,rfl⟩
  ·exact ⟨0,by omega,fun j hj=>by omega,rfl,rfl,rfl,rfl,rfl⟩
theorem Qh2 (xs:List Int) (hlx:xs.length≤17592186044416):Pu C 7 [.sl xs.length (ints xs)] (.int .i64 (Xf xs)):=by
 refine zK Qf Tryz.func7 w7 Tryz.ntmps7 Tryz.results7 ?_;refine zG ?_;refine Fc.pure (Qis xs hlx) (by simp [go_sem,Qh,clo,Qa,Qn]) (by intro g;simp only [go_sem,ren,Qk]) ?_
 (refine zG ?_;(repeat' ((with_reducible apply zBr)<;>intro h<;>refine zG ?_))<;>try exact .intro)
 ·skip
  (refine Qo (by intro g;simp only [go_sem,ren,Qk]) ?_)
  simp only [Xf,if_neg h]
 ·obtain ⟨h4,ha,hp⟩:=Qu h;refine Qj (fun n ts H=>∃ k,(k≤xs.length)∧(n=xs.length - k)∧(H=[])∧ts.length=21∧nth ts 0=.sl xs.length (ints xs)∧nth ts 3=.int .i64 (Qx (xs.take k))∧nth ts 4=.int .i64 k) ?_ (n:=xs.length) ?_
  ·skip
   rintro n ts H ⟨k,hk,hn,hH,hL,hs0,hs3,hs4⟩;refine Xc [(0,.sl xs.length (ints xs)),(3,.int .i64 (Qx (xs.take k))),(4,.int .i64 k)] hL (by simp only [zFm,hs0,hs3,hs4,true_and];exact zNm) ?_
   clear hL hs0 hs3 hs4 ts
   refine Qz Qf ?_;subst hH hn;by_cases hlt:k<xs.length
   ·have hle2:=Qhe ha (k+1)
    have hp2:=Yp (l:=xs.take (k+1)) fun d hd=>ha d (List.mem_of_mem_take hd)
    rw [Jj hlt] at hle2 hp2;refine zG ?_;exact ⟨_,by omega,k+1,by omega,rfl,by rw [Jj hlt],rfl⟩
   ·have e:xs.take k=xs:=List.take_of_length_le (by omega)
    refine zG ?_
    (refine Qo (by intro g;simp only [go_sem,ren,Qk]) ?_)
    simp only [Xf,if_pos h,e]
  ·exact ⟨0,by omega,rfl,rfl,rfl,rfl,rfl,rfl⟩
def okB (f t:List Int):Bool:=decide (f.length≤t.length)&&(List.range f.length).all fun i=>decide (f.getD i 0=1)||decide (f.getD i 0=t.getD (t.length - f.length+i) 0)
def Qad (f t:List Int):Int:=if Xa f=0 then (if Xa t=0 then (if okB f t then 0 else 13) else Xa t) else Xa f
theorem Qkf (f t:List Int):okB f t=true↔f.length≤t.length∧∀ i,i<f.length→(f.getD i 0=1∨f.getD i 0=t.getD (t.length - f.length+i) 0):=by
 simp only [okB,Bool.and_eq_true,decide_eq_true_eq,List.all_eq_true,List.mem_range,Bool.or_eq_true]
def Yz (xs axes:List Int):Nat→List Int
 | 0=>[]
 | i+1=>Yz xs axes i++if axes.contains (i:Int) then [] else [xs.getD i 0]
theorem Qcb (xs axes:List Int):∀ i,(Yz xs axes i).length≤i
 | 0=>by simp [Yz]
 | i+1=>by
  have:=Qcb xs axes i
  simp only [Yz,List.length_append];split<;>simp<;>omega
def inP (o v:Int):Bool:=decide (1≤o∧o≤20∧1≤v∧v≤3∧(o=18→v=1)∧(o=19∨o=20→v<3)∧(o=8∨o=9→v=3))
def least (o:Int):Int:=if o=1∨o=2∨o=3∨o=4∨o=10 then 2 else if o=19 then 3 else if o=17 then 1 else if o<1∨o>20 then 0 else 1
def most (o:Int):Int:=if o=17 then 8 else least o
def Qch (v o:Int):Bool:=decide (((o=6∨o=11∨o=17)∧v=1)∨((o=14∨o=20)∧v<3))
theorem Xoe (o v:Int):Pu C 12 [.int .i64 o,.int .i64 v] (.bool (inP o v)):=by
 refine zK Qf Tryz.func12 w12 Tryz.ntmps12 Tryz.results12 ?_
 (refine zG ?_;(repeat' ((with_reducible apply zBr)<;>intro h<;>refine zG ?_))<;>try exact .intro)
 all_goals (refine Qo (by intro g;simp only [go_sem,ren,Qk]) ?_)
 all_goals (simp only [V.tup.injEq,List.cons.injEq,V.int.injEq,V.bool.injEq,true_and,and_true];(try rw [Bool.eq_iff_iff]);(try simp only [inP,decide_eq_true_eq,decide_eq_false_iff_not,Decidable.not_not,true_and,and_true,Bool.not_eq_true,Bool.not_eq_eq_eq_not,Bool.not_true,Bool.and_eq_true,Bool.or_eq_true,beq_iff_eq,bne_iff_ne,ne_eq,Bool.false_eq_true,false_iff,true_iff,iff_false,iff_true]);(try omega))
theorem Xag (o:Int):Pu C 13 [.int .i64 o] (.tup [.int .i64 (least o),.int .i64 (most o)]):=by
 refine zK Qf Tryz.func13 w13 Tryz.ntmps13 Tryz.results13 ?_
 (refine zG ?_;(repeat' ((with_reducible apply zBr)<;>intro h<;>refine zG ?_))<;>try exact .intro)
 all_goals (refine Qo (by intro g;simp only [go_sem,ren,Qk]) ?_)
 all_goals (simp only [V.tup.injEq,List.cons.injEq,V.int.injEq,V.bool.injEq,true_and,and_true];(try rw [Bool.eq_iff_iff]);(try simp only [most,least,decide_eq_true_eq,decide_eq_false_iff_not,Decidable.not_not,true_and,and_true,Bool.not_eq_true,Bool.not_eq_eq_eq_not,Bool.not_true,Bool.and_eq_true,Bool.or_eq_true,beq_iff_eq,bne_iff_ne,ne_eq,Bool.false_eq_true,false_iff,true_iff,iff_false,iff_true]);(try omega))
theorem Qrq (v o:Int):Pu C 14 [.int .i64 v,.int .i64 o] (.bool (Qch v o)):=by
 refine zK Qf Tryz.func14 w14 Tryz.ntmps14 Tryz.results14 ?_
 (refine zG ?_;(repeat' ((with_reducible apply zBr)<;>intro h<;>refine zG ?_))<;>try exact .intro)
 all_goals (refine Qo (by intro g;simp only [go_sem,ren,Qk]) ?_)
 all_goals (simp only [V.tup.injEq,List.cons.injEq,V.int.injEq,V.bool.injEq,true_and,and_true];(try rw [Bool.eq_iff_iff]);(try simp only [Qch,decide_eq_true_eq,decide_eq_false_iff_not,Decidable.not_not,true_and,and_true,Bool.not_eq_true,Bool.not_eq_eq_eq_not,Bool.not_true,Bool.and_eq_true,Bool.or_eq_true,beq_iff_eq,bne_iff_ne,ne_eq,Bool.false_eq_true,false_iff,true_iff,iff_false,iff_true]);(try omega))
def Zn (l:List Int):Bool:=(List.range l.length).all fun i=>decide (0≤l.getD i 0∧l.getD i 0<l.length)&&(List.range i).all fun k=>decide (l.getD k 0≠l.getD i 0)
def Qd8 (l:List Int):Bool:=(List.range l.length).all fun i=>decide (0≤l.getD i 0∧l.getD i 0≤3∧(0<i→l.getD (i - 1) 0<l.getD i 0))
def Qfz (cut:Bool) (l:List Int):Bool:=decide (l.length%2=0∧l.length≤8)&&(List.range (l.length/2)).all fun i=>decide (0≤l.getD (2*i) 0∧0≤l.getD (2*i+1) 0∧(cut=true→l.getD (2*i) 0<l.getD (2*i+1) 0))
def Qhq (l:List Int):Bool:=l.any fun x=>decide (x>2147483647∨x< -2147483647)
def Yu (o:Int) (l:List Int):Bool :=
 if o=6 then decide (l.length=1∧0≤l.getD 0 0∧l.getD 0 0≤16)
 else if o=9 then decide (l.length=2∧1≤l.getD 1 0∧Nat.gcd (l.getD 0 0).natAbs (l.getD 1 0).natAbs=1)
 else if o=11 then Zn l&&decide (l.length≤4)
 else if o=12∨o=13 then decide (Xa l=0)
 else if o=14∨o=20 then Qd8 l
 else if o=15∨o=16 then Qfz (decide (o=15)) l
 else if o=17 then decide (l.length=1∧0≤l.getD 0 0∧l.getD 0 0≤3)
 else decide (l.length=0)
def Ya (o:Int) (l:List Int):Bool:=!Qhq l&&Yu o l
theorem Qep {l:List Int} (h:Qhq l=false) {i:Nat} (hi:i<l.length):-2147483647≤l.getD i 0∧l.getD i 0≤2147483647:=by
 have e:l.getD i 0=l[i]:=by simp [List.getD,hi]
 simp only [Qhq,List.any_eq_false,decide_eq_true_eq] at h
 have:=h _ (List.getElem_mem hi)
 rw [e];omega
def Qi8 (l:List Int) (i:Nat):Prop:=0≤l.getD i 0∧l.getD i 0<l.length∧∀ k,k<i→l.getD k 0≠l.getD i 0
theorem Qbu (l:List Int):Zn l=true↔∀ i,i<l.length→Qi8 l i:=by
 simp only [Zn,Qi8,List.all_eq_true,List.mem_range,Bool.and_eq_true,decide_eq_true_eq,and_assoc]
def Qd9 (l:List Int) (i:Nat):Prop:=0≤l.getD i 0∧l.getD i 0≤3∧(0<i→l.getD (i - 1) 0<l.getD i 0)
theorem Qa1 (l:List Int):Qd8 l=true↔∀ i,i<l.length→Qd9 l i:=by
 simp only [Qd8,Qd9,List.all_eq_true,List.mem_range,decide_eq_true_eq]
theorem Qs8 (p q:Int) (hp0:-2147483647≤p) (hp:p≤2147483647) (hq0:1≤q) (hq:q≤2147483647):Pu C 46 [.int .i64 p,.int .i64 q] (.bool (decide (Nat.gcd p.natAbs q.natAbs≠1))):=by
 refine zK Qf Tryz.func46 w46 Tryz.ntmps46 Tryz.results46 ?_
 (refine zG ?_;(repeat' ((with_reducible apply zBr)<;>intro h<;>refine zG ?_))<;>try exact .intro)
 all_goals
  refine Qj (fun n ts H=>∃ a b,(a≤2147483647)∧(b≤2147483647)∧(Nat.gcd a b=Nat.gcd p.natAbs q.natAbs)∧(n=b)∧(H=[])∧ts.length=17∧nth ts 0=.int .i64 (a:Nat)∧nth ts 1=.int .i64 (b:Nat)) ?_ (n:=q.natAbs) ?_
  ·skip
   rintro n ts H ⟨a,b,ha,hb,hg,hn,hH,hL,hs0,hs1⟩;refine Xc [(0,.int .i64 (a:Nat)),(1,.int .i64 (b:Nat))] hL (by simp only [zFm,hs0,hs1,true_and];exact zNm) ?_
   clear hL hs0 hs1 ts
   refine Qz Qf ?_;subst hH hn
   (refine zG ?_;(repeat' ((with_reducible apply zBr)<;>intro h<;>refine zG ?_))<;>try exact .intro)
   ·have e1:(a:Int)%(n:Int)=((a%n:Nat):Int):=by simp
    have hm:a%n<n:=Nat.mod_lt _ (by omega)
    exact ⟨_,hm,n,a%n,hb,by omega,by rw [Nat.gcd_comm,← hg,Nat.gcd_comm a n,Nat.gcd_rec n a],rfl,rfl,by rw [e1]⟩
   ·obtain rfl:n=0:=by omega
    rw [Nat.gcd_zero_right] at hg
    (refine Qo (by intro g;simp only [go_sem,ren,Qk]) ?_)
    simp only [← hg]
    (simp only [V.tup.injEq,List.cons.injEq,V.int.injEq,V.bool.injEq,true_and,and_true];(try rw [Bool.eq_iff_iff]);(try simp only [decide_eq_true_eq,decide_eq_false_iff_not,Decidable.not_not,true_and,and_true,Bool.not_eq_true,Bool.not_eq_eq_eq_not,Bool.not_true,Bool.and_eq_true,Bool.or_eq_true,beq_iff_eq,bne_iff_ne,ne_eq,Bool.false_eq_true,false_iff,true_iff,iff_false,iff_true]);(try omega))
  ·exact ⟨p.natAbs,q.natAbs,by omega,by omega,rfl,rfl,rfl,rfl,by simp -implicitDefEqProofs (maxSteps:=9^7) (disch:=first | omega | (simp only [Je];omega)) only [go_sem];congr 1;omega,by simp -implicitDefEqProofs (maxSteps:=9^7) (disch:=first | omega | (simp only [Je];omega)) only [go_sem];congr 1;omega⟩
theorem Qn7 {l:List Int} {i:Nat} (hi:i<l.length) (h:¬ Qi8 l i):Zn l=false:=by
 cases hx:Zn l with
 | false=>rfl
 | true=>exact (h ((Qbu l).1 hx i hi)).elim
theorem Qnx {l:List Int} {i:Nat} (hi:i<l.length) (h:¬ Qd9 l i):Qd8 l=false:=by
 cases hx:Qd8 l with
 | false=>rfl
 | true=>exact (h ((Qa1 l).1 hx i hi)).elim
def Qhg (cut:Bool) (l:List Int) (i:Nat):Prop:=0≤l.getD (2*i) 0∧0≤l.getD (2*i+1) 0∧(cut=true→l.getD (2*i) 0<l.getD (2*i+1) 0)
theorem Qcn (cut:Bool) (l:List Int):Qfz cut l=true↔l.length%2=0∧l.length≤8∧∀ i,i<l.length/2→Qhg cut l i:=by
 simp only [Qfz,Qhg,List.all_eq_true,List.mem_range,Bool.and_eq_true,decide_eq_true_eq,and_assoc]
theorem Qfy {cut:Bool} {l:List Int} (h:¬ (l.length%2=0∧l.length≤8∧∀ i,i<l.length/2→Qhg cut l i)):Qfz cut l=false:=by
 cases hx:Qfz cut l with
 | false=>rfl
 | true=>exact (h ((Qcn cut l).1 hx)).elim
theorem Qpe (o:Int) (l:List Int) (hl:l.length≤17592186044416):Pu C 15 [.int .i64 o,.sl l.length (ints l)] (.bool (Ya o l)):=by
 refine zK Qf Tryz.func15 w15 Tryz.ntmps15 Tryz.results15 ?_;refine zG ?_;refine Qj (fun n ts H=>∃ i,(i≤l.length)∧(∀ j,j<i→-2147483647≤l.getD j 0∧l.getD j 0≤2147483647)∧(n=l.length - i)∧(H=[])∧ts.length=216∧nth ts 0=.int .i64 o∧nth ts 1=.sl l.length (ints l)∧nth ts 5=.int .i64 i) ?_ (n:=l.length) ?_
 ·skip
  rintro n ts H ⟨i,hi,hf,hn,hH,hL,hs0,hs1,hs5⟩;refine Xc [(0,.int .i64 o),(1,.sl l.length (ints l)),(5,.int .i64 i)] hL (by simp only [zFm,hs0,hs1,hs5,true_and];exact zNm) ?_
  clear hL hs0 hs1 hs5 ts
  refine Qz Qf ?_;subst hH hn;by_cases hlt:i<l.length
  ·have bad:¬ (-2147483647≤l.getD i 0∧l.getD i 0≤2147483647)→Ya o l=false:=by
    intro hb
    have:Qhq l=true:=by
     cases hx:Qhq l with
     | true=>rfl
     | false=>exact (hb (Qep hx hlt)).elim
    simp [Ya,this]
   (refine zG ?_;(repeat' ((with_reducible apply zBr)<;>intro h<;>refine zG ?_))<;>try exact .intro)
   ·skip
    (refine Qo (by intro g;simp only [go_sem,ren,Qk]) ?_)
    rw [bad (by omega)]
   ·skip
    (refine Qo (by intro g;simp only [go_sem,ren,Qk]) ?_)
    rw [bad (by omega)]
   ·exact ⟨_,by omega,i+1,by omega,Qbc hf (by omega),rfl,(by (repeat' apply And.intro)<;>(first | rfl | omega | (congr 1;omega) | assumption | (congr 1;assumption)))⟩
  ·obtain rfl:i=l.length:=by omega
   have hfar:Qhq l=false:=by
    simp only [Qhq,List.any_eq_false,decide_eq_true_eq]
    have:=Zq (xs:=l) (p:=fun x=>¬ (x>2147483647∨x< -2147483647))
    exact this.2 fun j hj=>by have:=hf j hj;omega
   have ea:Ya o l=Yu o l:=by simp only [Ya,hfar,Bool.not_false,Bool.true_and]
   rw [ea];clear ea
   (refine zG ?_;(repeat' ((with_reducible apply zBr)<;>intro h<;>refine zG ?_))<;>try exact .intro)
   ·skip
    (refine Qo (by intro g;simp only [go_sem,ren,Qk]) ?_)
    obtain rfl:o=6:=by omega
    rw [show Yu 6 l=decide (l.length=1∧0≤l.getD 0 0∧l.getD 0 0≤16) from rfl]
    (simp only [V.tup.injEq,List.cons.injEq,V.int.injEq,V.bool.injEq,true_and,and_true];(try rw [Bool.eq_iff_iff]);(try simp only [decide_eq_true_eq,decide_eq_false_iff_not,Decidable.not_not,true_and,and_true,Bool.not_eq_true,Bool.not_eq_eq_eq_not,Bool.not_true,Bool.and_eq_true,Bool.or_eq_true,beq_iff_eq,bne_iff_ne,ne_eq,Bool.false_eq_true,false_iff,true_iff,iff_false,iff_true]);(try omega))
   ·skip
    (refine Qo (by intro g;simp only [go_sem,ren,Qk]) ?_)
    obtain rfl:o=6:=by omega
    rw [show Yu 6 l=decide (l.length=1∧0≤l.getD 0 0∧l.getD 0 0≤16) from rfl]
    (simp only [V.tup.injEq,List.cons.injEq,V.int.injEq,V.bool.injEq,true_and,and_true];(try rw [Bool.eq_iff_iff]);(try simp only [decide_eq_true_eq,decide_eq_false_iff_not,Decidable.not_not,true_and,and_true,Bool.not_eq_true,Bool.not_eq_eq_eq_not,Bool.not_true,Bool.and_eq_true,Bool.or_eq_true,beq_iff_eq,bne_iff_ne,ne_eq,Bool.false_eq_true,false_iff,true_iff,iff_false,iff_true]);(try omega))
   ·skip
    (refine Qo (by intro g;simp only [go_sem,ren,Qk]) ?_)
    obtain rfl:o=6:=by omega
    rw [show Yu 6 l=decide (l.length=1∧0≤l.getD 0 0∧l.getD 0 0≤16) from rfl]
    (simp only [V.tup.injEq,List.cons.injEq,V.int.injEq,V.bool.injEq,true_and,and_true];(try rw [Bool.eq_iff_iff]);(try simp only [decide_eq_true_eq,decide_eq_false_iff_not,Decidable.not_not,true_and,and_true,Bool.not_eq_true,Bool.not_eq_eq_eq_not,Bool.not_true,Bool.and_eq_true,Bool.or_eq_true,beq_iff_eq,bne_iff_ne,ne_eq,Bool.false_eq_true,false_iff,true_iff,iff_false,iff_true]);(try omega))
   ·obtain rfl:o=9:=by omega
    rw [show Yu 9 l=decide (l.length=2∧1≤l.getD 1 0∧Nat.gcd (l.getD 0 0).natAbs (l.getD 1 0).natAbs=1) from rfl]
    have f0:=hf 0 (by omega)
    have f1:=hf 1 (by omega)
    refine Pc.pure (Qs8 _ _ f0.1 f0.2 (by omega) f1.2) (by simp [go_sem,Qh,clo,Qa,Qn]) (by intro g;simp only [go_sem,ren,Qk]) ?_
    refine zG ?_
    (refine Qo (by intro g;simp only [go_sem,ren,Qk]) ?_)
    (simp only [V.tup.injEq,List.cons.injEq,V.int.injEq,V.bool.injEq,true_and,and_true];(try rw [Bool.eq_iff_iff]);(try simp only [decide_eq_true_eq,decide_eq_false_iff_not,Decidable.not_not,true_and,and_true,Bool.not_eq_true,Bool.not_eq_eq_eq_not,Bool.not_true,Bool.and_eq_true,Bool.or_eq_true,beq_iff_eq,bne_iff_ne,ne_eq,Bool.false_eq_true,false_iff,true_iff,iff_false,iff_true]);(try omega))
   ·skip
    (refine Qo (by intro g;simp only [go_sem,ren,Qk]) ?_)
    obtain rfl:o=9:=by omega
    rw [show Yu 9 l=decide (l.length=2∧1≤l.getD 1 0∧Nat.gcd (l.getD 0 0).natAbs (l.getD 1 0).natAbs=1) from rfl]
    (simp only [V.tup.injEq,List.cons.injEq,V.int.injEq,V.bool.injEq,true_and,and_true];(try rw [Bool.eq_iff_iff]);(try simp only [decide_eq_true_eq,decide_eq_false_iff_not,Decidable.not_not,true_and,and_true,Bool.not_eq_true,Bool.not_eq_eq_eq_not,Bool.not_true,Bool.and_eq_true,Bool.or_eq_true,beq_iff_eq,bne_iff_ne,ne_eq,Bool.false_eq_true,false_iff,true_iff,iff_false,iff_true]);(try omega))
   ·skip
    (refine Qo (by intro g;simp only [go_sem,ren,Qk]) ?_)
    obtain rfl:o=9:=by omega
    rw [show Yu 9 l=decide (l.length=2∧1≤l.getD 1 0∧Nat.gcd (l.getD 0 0).natAbs (l.getD 1 0).natAbs=1) from rfl]
    (simp only [V.tup.injEq,List.cons.injEq,V.int.injEq,V.bool.injEq,true_and,and_true];(try rw [Bool.eq_iff_iff]);(try simp only [decide_eq_true_eq,decide_eq_false_iff_not,Decidable.not_not,true_and,and_true,Bool.not_eq_true,Bool.not_eq_eq_eq_not,Bool.not_true,Bool.and_eq_true,Bool.or_eq_true,beq_iff_eq,bne_iff_ne,ne_eq,Bool.false_eq_true,false_iff,true_iff,iff_false,iff_true]);(try omega))
   ·obtain rfl:o=11:=by omega
    rw [show Yu 11 l=(Zn l&&decide (l.length≤4)) from rfl];refine Qj (fun n ts H=>∃ i,(i≤l.length)∧(∀ j,j<i→Qi8 l j)∧(n=l.length - i)∧(H=[])∧ts.length=216∧nth ts 1=.sl l.length (ints l)∧nth ts 6=.int .i64 i) ?_ (n:=l.length) ?_
    ·skip
     rintro n ts H ⟨i,hi,hp,hn,hH,hL,hs1,hs6⟩;refine Xc [(1,.sl l.length (ints l)),(6,.int .i64 i)] hL (by simp only [zFm,hs1,hs6,true_and];exact zNm) ?_
     clear hL hs1 hs6 ts
     refine Qz Qf ?_;subst hH hn
     (refine zG ?_;(repeat' ((with_reducible apply zBr)<;>intro h<;>refine zG ?_))<;>try exact .intro)
     ·skip
      (refine Qo (by intro g;simp only [go_sem,ren,Qk]) ?_)
      rw [Qn7 (i:=i) (by omega) (fun hp=>by have:=hp.1;omega)];rfl
     ·skip
      (refine Qo (by intro g;simp only [go_sem,ren,Qk]) ?_)
      rw [Qn7 (i:=i) (by omega) (fun hp=>by have:=hp.2.1;omega)];rfl
     ·skip
      refine Qj (fun n ts H=>∃ k,(k≤i)∧(∀ m,m<k→l.getD m 0≠l.getD i 0)∧(n=i - k)∧(H=[])∧ts.length=216∧nth ts 1=.sl l.length (ints l)∧nth ts 6=.int .i64 i∧nth ts 7=.int .i64 k) ?_ (n:=i) ?_
      ·skip
       rintro n ts H ⟨k,hk,hq,hn,hH,hL,hs1,hs6,hs7⟩;refine Xc [(1,.sl l.length (ints l)),(6,.int .i64 i),(7,.int .i64 k)] hL (by simp only [zFm,hs1,hs6,hs7,true_and];exact zNm) ?_
       clear hL hs1 hs6 hs7 ts
       refine Qz Qf ?_;subst hH hn
       (refine zG ?_;(repeat' ((with_reducible apply zBr)<;>intro h<;>refine zG ?_))<;>try exact .intro)
       ·skip
        (refine Qo (by intro g;simp only [go_sem,ren,Qk]) ?_)
        rw [Qn7 (i:=i) (by omega) (fun hp=>hp.2.2 k (by omega) h)];rfl
       ·exact ⟨_,by omega,k+1,by omega,Qbc hq h,rfl,(by (repeat' apply And.intro)<;>(first | rfl | omega | (congr 1;omega) | assumption | (congr 1;assumption)))⟩
       ·obtain rfl:k=i:=by omega
        exact ⟨_,by omega,k+1,by omega,Qbc hp ⟨by omega,by omega,hq⟩,rfl,(by (repeat' apply And.intro)<;>(first | rfl | omega | (congr 1;omega) | assumption | (congr 1;assumption)))⟩
      ·exact ⟨0,by omega,fun m hm=>by omega,rfl,rfl,rfl,rfl,rfl,rfl⟩
     ·skip
      (refine Qo (by intro g;simp only [go_sem,ren,Qk]) ?_)
      rw [(Qbu l).2 fun j hj=>hp j (by omega)]
      (simp only [V.tup.injEq,List.cons.injEq,V.int.injEq,V.bool.injEq,true_and,and_true];(try rw [Bool.eq_iff_iff]);(try simp only [decide_eq_true_eq,decide_eq_false_iff_not,Decidable.not_not,true_and,and_true,Bool.not_eq_true,Bool.not_eq_eq_eq_not,Bool.not_true,Bool.and_eq_true,Bool.or_eq_true,beq_iff_eq,bne_iff_ne,ne_eq,Bool.false_eq_true,false_iff,true_iff,iff_false,iff_true]);(try omega))
    ·exact ⟨0,by omega,fun j hj=>by omega,rfl,rfl,rfl,rfl,rfl⟩
   ·obtain rfl:o=12:=by omega
    refine Fc.pure (Qis l hl) (by simp [go_sem,Qh,clo,Qa,Qn]) (by intro g;simp only [go_sem,ren,Qk]) ?_
    refine zG ?_
    (refine Qo (by intro g;simp only [go_sem,ren,Qk]) ?_)
    rw [show Yu 12 l=decide (Xa l=0) from rfl]
    (simp only [V.tup.injEq,List.cons.injEq,V.int.injEq,V.bool.injEq,true_and,and_true];(try rw [Bool.eq_iff_iff]);(try simp only [decide_eq_true_eq,decide_eq_false_iff_not,Decidable.not_not,true_and,and_true,Bool.not_eq_true,Bool.not_eq_eq_eq_not,Bool.not_true,Bool.and_eq_true,Bool.or_eq_true,beq_iff_eq,bne_iff_ne,ne_eq,Bool.false_eq_true,false_iff,true_iff,iff_false,iff_true]);(try omega))
   ·obtain rfl:o=13:=by omega
    refine Fc.pure (Qis l hl) (by simp [go_sem,Qh,clo,Qa,Qn]) (by intro g;simp only [go_sem,ren,Qk]) ?_
    refine zG ?_
    (refine Qo (by intro g;simp only [go_sem,ren,Qk]) ?_)
    rw [show Yu 13 l=decide (Xa l=0) from rfl]
    (simp only [V.tup.injEq,List.cons.injEq,V.int.injEq,V.bool.injEq,true_and,and_true];(try rw [Bool.eq_iff_iff]);(try simp only [decide_eq_true_eq,decide_eq_false_iff_not,Decidable.not_not,true_and,and_true,Bool.not_eq_true,Bool.not_eq_eq_eq_not,Bool.not_true,Bool.and_eq_true,Bool.or_eq_true,beq_iff_eq,bne_iff_ne,ne_eq,Bool.false_eq_true,false_iff,true_iff,iff_false,iff_true]);(try omega))
   iterate 2
    ·rw [show Yu o l=Qd8 l by obtain rfl|rfl:o=14∨o=20:=(by omega);all_goals rfl]
     refine Qj (fun n ts H=>∃ i,(i≤l.length)∧(∀ j,j<i→Qd9 l j)∧(n=l.length - i)∧(H=[])∧ts.length=216∧nth ts 1=.sl l.length (ints l)∧nth ts 8=.int .i64 i) ?_ (n:=l.length) ?_
     ·skip
      rintro n ts H ⟨i,hi,hp,hn,hH,hL,hs1,hs8⟩;refine Xc [(1,.sl l.length (ints l)),(8,.int .i64 i)] hL (by simp only [zFm,hs1,hs8,true_and];exact zNm) ?_
      clear hL hs1 hs8 ts
      refine Qz Qf ?_;subst hH hn
      (refine zG ?_;(repeat' ((with_reducible apply zBr)<;>intro h<;>refine zG ?_))<;>try exact .intro)
      ·skip
       (refine Qo (by intro g;simp only [go_sem,ren,Qk]) ?_)
       rw [Qnx (i:=i) (by omega) (fun hp=>by have:=hp.1;omega)]
      ·skip
       (refine Qo (by intro g;simp only [go_sem,ren,Qk]) ?_)
       rw [Qnx (i:=i) (by omega) (fun hp=>by have:=hp.2.1;omega)]
      ·skip
       (refine Qo (by intro g;simp only [go_sem,ren,Qk]) ?_)
       rw [Qnx (i:=i) (by omega) (fun hp=>by have:=hp.2.2 (by omega);omega)]
      ·exact ⟨_,by omega,i+1,by omega,Qbc hp ⟨by omega,by omega,fun _=>by omega⟩,rfl,(by (repeat' apply And.intro)<;>(first | rfl | omega | (congr 1;omega) | assumption | (congr 1;assumption)))⟩
      ·exact ⟨_,by omega,i+1,by omega,Qbc hp ⟨by omega,by omega,fun _=>by omega⟩,rfl,(by (repeat' apply And.intro)<;>(first | rfl | omega | (congr 1;omega) | assumption | (congr 1;assumption)))⟩
      ·skip
       (refine Qo (by intro g;simp only [go_sem,ren,Qk]) ?_)
       rw [(Qa1 l).2 fun j hj=>hp j (by omega)]
     ·exact ⟨0,by omega,fun j hj=>by omega,rfl,rfl,rfl,rfl,rfl⟩
   iterate 2
    ·rw [show Yu o l=Qfz (decide (o=15)) l by obtain rfl|rfl:o=15∨o=16:=(by omega);all_goals rfl]
     (refine Qo (by intro g;simp only [go_sem,ren,Qk]) ?_)
     rw [Qfy (fun h=>by have:=h.1;omega)]
    ·rw [show Yu o l=Qfz (decide (o=15)) l by obtain rfl|rfl:o=15∨o=16:=(by omega);all_goals rfl]
     (refine Qo (by intro g;simp only [go_sem,ren,Qk]) ?_)
     rw [Qfy (fun h=>by have:=h.2.1;omega)]
    ·rw [show Yu o l=Qfz (decide (o=15)) l by obtain rfl|rfl:o=15∨o=16:=(by omega);all_goals rfl]
     refine Qj (fun n ts H=>∃ k,(k≤l.length/2)∧(∀ j,j<k→Qhg (decide (o=15)) l j)∧(n=l.length/2 - k)∧(H=[])∧ts.length=216∧nth ts 0=.int .i64 o∧nth ts 1=.sl l.length (ints l)∧nth ts 9=.int .i64 (2*k:Nat)) ?_ (n:=l.length/2) ?_
     ·skip
      rintro n ts H ⟨k,hi,hp,hn,hH,hL,hs0,hs1,hs9⟩;refine Xc [(0,.int .i64 o),(1,.sl l.length (ints l)),(9,.int .i64 (2*k:Nat))] hL (by simp only [zFm,hs0,hs1,hs9,true_and];exact zNm) ?_
      clear hL hs0 hs1 hs9 ts
      refine Qz Qf ?_;subst hH hn
      have bad:2*k<l.length→¬ Qhg (decide (o=15)) l k→Qfz (decide (o=15)) l=false:=fun h1 h2=>Qfy fun h=>h2 (h.2.2 k (by omega))
      (refine zG ?_;(repeat' ((with_reducible apply zBr)<;>intro h<;>refine zG ?_))<;>try exact .intro)
      all_goals first
       | exact ⟨_,by omega,k+1,by omega,Qbc hp ⟨by omega,by omega,fun h=>by have:=of_decide_eq_true h;omega⟩,rfl,(by (repeat' apply And.intro)<;>(first | rfl | omega | (congr 1;omega) | assumption | (congr 1;assumption)))⟩
       | ((refine Qo (by intro g;simp only [go_sem,ren,Qk]) ?_);rw [(Qcn _ l).2 ⟨by omega,by omega,fun j hj=>hp j (by omega)⟩])
       | ((refine Qo (by intro g;simp only [go_sem,ren,Qk]) ?_);rw [bad (by omega) (fun hp=>by have h1:=hp.1;have h2:=hp.2.1;omega)])
       | ((refine Qo (by intro g;simp only [go_sem,ren,Qk]) ?_);rw [bad (by omega) (fun hp=>by have h3:=hp.2.2 (decide_eq_true (by omega));omega)])
     ·exact ⟨0,by omega,fun j hj=>by omega,rfl,rfl,rfl,rfl,rfl,rfl⟩
   ·skip
    (refine Qo (by intro g;simp only [go_sem,ren,Qk]) ?_)
    obtain rfl:o=17:=by omega
    rw [show Yu 17 l=decide (l.length=1∧0≤l.getD 0 0∧l.getD 0 0≤3) from rfl]
    (simp only [V.tup.injEq,List.cons.injEq,V.int.injEq,V.bool.injEq,true_and,and_true];(try rw [Bool.eq_iff_iff]);(try simp only [decide_eq_true_eq,decide_eq_false_iff_not,Decidable.not_not,true_and,and_true,Bool.not_eq_true,Bool.not_eq_eq_eq_not,Bool.not_true,Bool.and_eq_true,Bool.or_eq_true,beq_iff_eq,bne_iff_ne,ne_eq,Bool.false_eq_true,false_iff,true_iff,iff_false,iff_true]);(try omega))
   ·skip
    (refine Qo (by intro g;simp only [go_sem,ren,Qk]) ?_)
    obtain rfl:o=17:=by omega
    rw [show Yu 17 l=decide (l.length=1∧0≤l.getD 0 0∧l.getD 0 0≤3) from rfl]
    (simp only [V.tup.injEq,List.cons.injEq,V.int.injEq,V.bool.injEq,true_and,and_true];(try rw [Bool.eq_iff_iff]);(try simp only [decide_eq_true_eq,decide_eq_false_iff_not,Decidable.not_not,true_and,and_true,Bool.not_eq_true,Bool.not_eq_eq_eq_not,Bool.not_true,Bool.and_eq_true,Bool.or_eq_true,beq_iff_eq,bne_iff_ne,ne_eq,Bool.false_eq_true,false_iff,true_iff,iff_false,iff_true]);(try omega))
   ·skip
    (refine Qo (by intro g;simp only [go_sem,ren,Qk]) ?_)
    obtain rfl:o=17:=by omega
    rw [show Yu 17 l=decide (l.length=1∧0≤l.getD 0 0∧l.getD 0 0≤3) from rfl]
    (simp only [V.tup.injEq,List.cons.injEq,V.int.injEq,V.bool.injEq,true_and,and_true];(try rw [Bool.eq_iff_iff]);(try simp only [decide_eq_true_eq,decide_eq_false_iff_not,Decidable.not_not,true_and,and_true,Bool.not_eq_true,Bool.not_eq_eq_eq_not,Bool.not_true,Bool.and_eq_true,Bool.or_eq_true,beq_iff_eq,bne_iff_ne,ne_eq,Bool.false_eq_true,false_iff,true_iff,iff_false,iff_true]);(try omega))
   ·skip
    (refine Qo (by intro g;simp only [go_sem,ren,Qk]) ?_)
    unfold Yu;rw [if_neg (by omega),if_neg (by omega),if_neg (by omega),if_neg (by omega),if_neg (by omega),if_neg (by omega),if_neg (by omega)]
    (simp only [V.tup.injEq,List.cons.injEq,V.int.injEq,V.bool.injEq,true_and,and_true];(try rw [Bool.eq_iff_iff]);(try simp only [decide_eq_true_eq,decide_eq_false_iff_not,Decidable.not_not,true_and,and_true,Bool.not_eq_true,Bool.not_eq_eq_eq_not,Bool.not_true,Bool.and_eq_true,Bool.or_eq_true,beq_iff_eq,bne_iff_ne,ne_eq,Bool.false_eq_true,false_iff,true_iff,iff_false,iff_true]);(try omega))
 ·exact ⟨0,by omega,fun j hj=>by omega,rfl,rfl,rfl,rfl,rfl,rfl⟩
structure Nd where
 op:Int
 args:List Int
 attrs:List Int
def ndC (n:Nd):List V:=[.int .i64 n.op,.sl n.args.length (ints n.args),.sl n.attrs.length (ints n.attrs)]
theorem Xqp (n:Nd):ndC n=[.int .i64 n.op,.sl n.args.length (ints n.args),.sl n.attrs.length (ints n.attrs)]:=rfl
attribute [go_sem] Xqp
def Yy (v:Int) (n:Nd):Int:=if v<1∨v>3 then 8 else if inP n.op v=false then 9 else if (n.args.length:Int)<least n.op∨(n.args.length:Int)>most n.op then 10 else if n.attrs.length=0∧Qch v n.op=true then 0 else if Ya n.op n.attrs=true then 0 else 11
def up (k:Nat):List Int:=(List.range k).map fun i:Nat=>(i:Int)
def down (k:Nat):List Int:=(up k).reverse
theorem Xak (k:Nat):up (k+1)=up k++[(k:Int)]:=by simp [up,List.range_succ]
theorem Qa0 (k:Nat):(up k).length=k:=by simp [up]
def Jt (v:Int) (n:Nd) (r:Nat):List Int:=if Yy v n≠0∨n.attrs.length>0∨Qch v n.op=false then n.attrs else
 if n.op=6 then [2] else if n.op=17 then [0] else if n.op=11 then down (if r>4 then 0 else r) else up (if r>4 then 0 else r)
theorem Qk7 (v:Int) (n:Nd) (ha:n.args.length≤17592186044416) (hl:n.attrs.length≤17592186044416):Pu C 4 [.int .i64 v,.agg (ndC n)] (.int .i64 (Yy v n)):=by
 refine zK Qf Tryz.func4 w4 Tryz.ntmps4 Tryz.results4 ?_
 (refine zG ?_;(repeat' ((with_reducible apply zBr)<;>intro h<;>refine zG ?_))<;>try exact .intro)
 ·skip
  (refine Qo (by intro g;simp only [go_sem,ren,Qk]) ?_)
  grind [Yy]
 ·skip
  (refine Qo (by intro g;simp only [go_sem,ren,Qk]) ?_)
  grind [Yy]
 ·skip
  refine Fc.pure (Xoe _ _) (by simp [go_sem,Qh,clo,Qa,Qn]) (by intro g;simp only [go_sem,ren,Qk]) ?_
  (refine zG ?_;(repeat' ((with_reducible apply zBr)<;>intro h<;>refine zG ?_))<;>try exact .intro)
  ·skip
   refine Fc.pure (Xag _) (by simp [go_sem,Qh,clo,Qa,Qn]) (by intro g;simp only [go_sem,ren,Qk]) ?_
   (refine zG ?_;(repeat' ((with_reducible apply zBr)<;>intro h<;>refine zG ?_))<;>try exact .intro)
   ·skip
    (refine Qo (by intro g;simp only [go_sem,ren,Qk]) ?_)
    grind [Yy]
   ·skip
    (refine Qo (by intro g;simp only [go_sem,ren,Qk]) ?_)
    grind [Yy]
   ·skip
    refine Fc.pure (Qrq _ _) (by simp [go_sem,Qh,clo,Qa,Qn]) (by intro g;simp only [go_sem,ren,Qk]) ?_
    (refine zG ?_;(repeat' ((with_reducible apply zBr)<;>intro h<;>refine zG ?_))<;>try exact .intro)
    ·skip
     (refine Qo (by intro g;simp only [go_sem,ren,Qk]) ?_)
     grind [Yy]
    ·skip
     refine Fc.pure (Qpe _ _ hl) (by simp [go_sem,Qh,clo,Qa,Qn]) (by intro g;simp only [go_sem,ren,Qk]) ?_
     (refine zG ?_;(repeat' ((with_reducible apply zBr)<;>intro h<;>refine zG ?_))<;>try exact .intro)
     all_goals (refine Qo (by intro g;simp only [go_sem,ren,Qk]) ?_)
     all_goals grind [Yy]
   ·skip
    refine Fc.pure (Qpe _ _ hl) (by simp [go_sem,Qh,clo,Qa,Qn]) (by intro g;simp only [go_sem,ren,Qk]) ?_
    (refine zG ?_;(repeat' ((with_reducible apply zBr)<;>intro h<;>refine zG ?_))<;>try exact .intro)
    all_goals (refine Qo (by intro g;simp only [go_sem,ren,Qk]) ?_)
    all_goals grind [Yy]
  ·skip
   (refine Qo (by intro g;simp only [go_sem,ren,Qk]) ?_)
   grind [Yy]
theorem Qso {e s:Nat} {H:Qb} {cs:List V} {n:Nat} (h:cs.length=n*s):Bv.Own e s (H++[some ⟨e,s,cs⟩]) (.ref H.length 0 n) n cs:=.inr ⟨H.length,rfl,Xo _ _,h⟩
theorem Qrb (R j:Nat) (h:j<R):(down R).take (j+1)=(down R).take j++[((R:Int) - 1 - j)]:=by
 rw [List.take_add_one];congr 1
 have:(down R)[j]?=some ((R:Int) - 1 - j):=by
  simp only [down,up];rw [List.getElem?_reverse (by simpa using h)]
  simp only [List.length_map,List.length_range,List.getElem?_map];rw [List.getElem?_range (by omega)]
  simp;omega
 rw [this];rfl
theorem Jc (k:Nat):(down k).length=k:=by simp [down,up]
theorem Qt9 {l:List Int} {j:Nat} (h:j≤l.length):(l.take j).length=j:=by simp;omega
theorem Qm4 (v:Int) (n:Nd) (r:Nat) (hr:r≤17592186044416) (ha:n.args.length≤17592186044416) (hl:n.attrs.length≤17592186044416):Fc C 24 [.int .i64 v,.agg (ndC n),.int .i64 r] [] (fun v' H=>RetL 3 1 H v' (Jt v n r).length (ints (Jt v n r))):=by
 refine zK Qf Tryz.func24 w24 Tryz.ntmps24 Tryz.results24 ?_;refine zG ?_;refine Fc.pure (Qk7 v n ha hl) (by simp [go_sem,Qh,clo,Qa,Qn]) (by intro g;simp only [go_sem,ren,Qk]) ?_
 have early:Yy v n≠0∨n.attrs.length>0∨Qch v n.op=false→∀ H,∃ sel,Qb6 sel (fun v' H=>RetL 3 1 H v' (Jt v n r).length (ints (Jt v n r))) (V.sl n.attrs.length (ints n.attrs)) H:=by
  intro h H;rw [Jt,if_pos h];exact IsL.ret (e:=3) (s:=1) (.inl rfl) (fun g=>Ql g _) fun v H h=>h
 (refine zG ?_;(repeat' ((with_reducible apply zBr)<;>intro h<;>refine zG ?_))<;>try exact .intro)
 ·exact early (.inl h) _
 ·exact early (.inr (.inl (by omega))) _
 ·skip
  refine Fc.pure (Qrq v n.op) (by simp [go_sem,Qh,clo,Qa,Qn]) (by intro g;simp only [go_sem,ren,Qk]) ?_
  have main:Yy v n=0→¬ 0<(n.attrs.length:Int)→Qch v n.op=true→Jt v n r=if n.op=6 then [2] else if n.op=17 then [0] else if n.op=11 then down (if r>4 then 0 else r) else up (if r>4 then 0 else r):=by
   intro h1 h2 h3;rw [Jt,if_neg (by rw [h1,h3];simp;exact List.eq_nil_of_length_eq_zero (by omega))]
  (refine zG ?_;(repeat' ((with_reducible apply zBr)<;>intro h<;>refine zG ?_))<;>try exact .intro)
  ·rw [main (by assumption) (by assumption) (by assumption),if_pos (by assumption)]
   exact Own.ret (e:=3) (s:=1) (n:=1) (cs:=ints [2]) (.inr ⟨1,rfl,rfl,rfl⟩) (fun g=>Ql g [2]) fun v H h=>Or.inr h
  ·rw [main (by assumption) (by assumption) (by assumption),if_neg (by assumption),if_pos (by assumption)]
   exact Own.ret (e:=3) (s:=1) (n:=1) (cs:=ints [0]) (.inr ⟨1,rfl,rfl,rfl⟩) (fun g=>Ql g [0]) fun v H h=>Or.inr h
  ·rw [main (by assumption) (by assumption) (by assumption),if_neg (by assumption),if_neg (by assumption),if_pos (by assumption),if_pos (show r>4 by omega)]
   refine Qj (fun n ts H=>∃ j u,(j≤0)∧(n=0 - j)∧(Bv.Own 3 1 H u ((down 0).take j).length (ints ((down 0).take j)))∧ts.length=66∧nth ts 7=u∧nth ts 8=.int .i64 (((0:Nat):Int) - 1 - j)) ?_ (n:=0) ?_
   ·skip
    rintro n ts H ⟨j,u,hj,hn,hu,hL,hs7,hs8⟩;refine Xc [(7,u),(8,.int .i64 (((0:Nat):Int) - 1 - j))] hL (by simp only [zFm,hs7,hs8,true_and];exact zNm) ?_
    clear hL hs7 hs8 ts
    refine Qz Qf ?_;subst hn;refine zG ?_;obtain rfl:j=0:=by omega
    exact hu.ret (fun g=>Ql g _) fun v H h=>.inr h
   ·exact ⟨0,.nil,by omega,rfl,.nil ..,rfl,rfl,by first | rfl | (simp -implicitDefEqProofs (maxSteps:=9^7) (disch:=first | omega | (simp only [Je];omega)) only [go_sem];congr 1;omega)⟩
  ·rw [main (by assumption) (by assumption) (by assumption),if_neg (by assumption),if_neg (by assumption),if_neg (by assumption),if_pos (show r>4 by omega)]
   refine Qj (fun n ts H=>∃ j u,(j≤0)∧(n=0 - j)∧(Bv.Own 3 1 H u (up j).length (ints (up j)))∧ts.length=66∧nth ts 2=.int .i64 (0:Nat)∧nth ts 7=u∧nth ts 9=.int .i64 j) ?_ (n:=0) ?_
   ·skip
    rintro n ts H ⟨j,u,hj,hn,hu,hL,hs2,hs7,hs9⟩;refine Xc [(2,.int .i64 (0:Nat)),(7,u),(9,.int .i64 j)] hL (by simp only [zFm,hs2,hs7,hs9,true_and];exact zNm) ?_
    clear hL hs2 hs7 hs9 ts
    refine Qz Qf ?_;subst hn;refine zG ?_;obtain rfl:j=0:=by omega
    exact hu.ret (fun g=>Ql g _) fun v H h=>.inr h
   ·exact ⟨0,.nil,by omega,rfl,.nil ..,rfl,rfl,rfl,rfl⟩
  ·rw [main (by assumption) (by assumption) (by assumption),if_pos (by assumption)]
   exact Own.ret (e:=3) (s:=1) (n:=1) (cs:=ints [2]) (.inr ⟨1,rfl,rfl,rfl⟩) (fun g=>Ql g [2]) fun v H h=>Or.inr h
  ·rw [main (by assumption) (by assumption) (by assumption),if_neg (by assumption),if_pos (by assumption)]
   exact Own.ret (e:=3) (s:=1) (n:=1) (cs:=ints [0]) (.inr ⟨1,rfl,rfl,rfl⟩) (fun g=>Ql g [0]) fun v H h=>Or.inr h
  ·rw [main (by assumption) (by assumption) (by assumption),if_neg (by assumption),if_neg (by assumption),if_pos (by assumption),if_neg (show ¬ r>4 by omega)]
   refine Qj (fun n ts H=>∃ j u,(j≤r)∧(n=r - j)∧(Bv.Own 3 1 H u ((down r).take j).length (ints ((down r).take j)))∧ts.length=66∧nth ts 7=u∧nth ts 8=.int .i64 (((r:Nat):Int) - 1 - j)) ?_ (n:=r) ?_
   ·skip
    rintro n ts H ⟨j,u,hj,hn,hu,hL,hs7,hs8⟩;refine Xc [(7,u),(8,.int .i64 (((r:Nat):Int) - 1 - j))] hL (by simp only [zFm,hs7,hs8,true_and];exact zNm) ?_
    clear hL hs7 hs8 ts
    refine Qz Qf ?_;subst hn
    (refine zG ?_;(repeat' ((with_reducible apply zBr)<;>intro h<;>refine zG ?_))<;>try exact .intro)
    ·refine Qcd hu rfl ⟨by decide,by decide⟩ (by rw [Qt9 (by rw [Jc];omega)];omega) fun v' H' hu' _=>?_
     refine zG ?_;exact ⟨_,by omega,j+1,v',by omega,rfl,by rw [Qrb _ _ (by omega)];exact hu',(by (repeat' apply And.intro)<;>(first | rfl | omega | (congr 1;omega) | assumption | (congr 1;assumption)))⟩
    ·obtain rfl:j=r:=by omega
     rw [List.take_of_length_le (by rw [Jc];exact Nat.le_refl _)] at hu
     exact hu.ret (fun g=>Ql g _) fun v H h=>.inr h
   ·exact ⟨0,.nil,by omega,rfl,.nil ..,rfl,rfl,by first | rfl | (simp -implicitDefEqProofs (maxSteps:=9^7) (disch:=first | omega | (simp only [Je];omega)) only [go_sem];congr 1;omega)⟩
  ·rw [main (by assumption) (by assumption) (by assumption),if_neg (by assumption),if_neg (by assumption),if_neg (by assumption),if_neg (show ¬ r>4 by omega)]
   refine Qj (fun n ts H=>∃ j u,(j≤r)∧(n=r - j)∧(Bv.Own 3 1 H u (up j).length (ints (up j)))∧ts.length=66∧nth ts 2=.int .i64 (r:Nat)∧nth ts 7=u∧nth ts 9=.int .i64 j) ?_ (n:=r) ?_
   ·skip
    rintro n ts H ⟨j,u,hj,hn,hu,hL,hs2,hs7,hs9⟩;refine Xc [(2,.int .i64 (r:Nat)),(7,u),(9,.int .i64 j)] hL (by simp only [zFm,hs2,hs7,hs9,true_and];exact zNm) ?_
    clear hL hs2 hs7 hs9 ts
    refine Qz Qf ?_;subst hn
    (refine zG ?_;(repeat' ((with_reducible apply zBr)<;>intro h<;>refine zG ?_))<;>try exact .intro)
    ·refine Qcd hu rfl ⟨by decide,by decide⟩ (by rw [Qa0];omega) fun v' H' hu' _=>?_
     refine zG ?_;exact ⟨_,by omega,j+1,v',by omega,rfl,by rw [Xak];exact hu',(by (repeat' apply And.intro)<;>(first | rfl | omega | (congr 1;omega) | assumption | (congr 1;assumption)))⟩
    ·obtain rfl:j=r:=by omega
     exact hu.ret (fun g=>Ql g _) fun v H h=>.inr h
   ·exact ⟨0,.nil,by omega,rfl,.nil ..,rfl,rfl,rfl,rfl⟩
  ·exact early (.inr (.inr (by assumption))) _
end Go.Proofs.YtipmmjebfpbkmaaGreat
end
section
namespace Go.Proofs.YtipmmjebfpbkmaaGreat
open Go.Bv
abbrev Sh:=List Int × Int
def Qab (x y:List Int):Sh:=if x.length=2∧y.length=2∧x.getD 1 0=y.getD 0 0 then ([x.getD 0 0,y.getD 1 0],0) else ([],13)
def tab (f:Nat→Int) (k:Nat):List Int:=(List.range k).map f
theorem Qua (f:Nat→Int) (k:Nat):tab f (k+1)=tab f k++[f k]:=by simp [tab,List.range_succ]
theorem Zw (f:Nat→Int) (k:Nat):(tab f k).length=k:=by simp [tab]
theorem Xf7 (f:Nat→Int) {k i:Nat} (h:i<k):(tab f k).getD i 0=f i:=by simp [tab,List.getD,h]
def Xlw (l:List Int) (i:Nat):Int:=l.getD (2*i+1) 0 - l.getD (2*i) 0
def Que (x l:List Int) (k:Nat):Bool:=(List.range k).all fun i=>decide (l.getD (2*i+1) 0≤x.getD i 0)
theorem Qqg (x l:List Int) (k:Nat):Que x l k=true↔∀ i,i<k→l.getD (2*i+1) 0≤x.getD i 0:=by simp [Que]
def Xph (x l:List Int):Sh:=if l.length=2*x.length∧Que x l x.length=true then (tab (Xlw l) x.length,0) else ([],13)
def Att (l:List Int):Prop:=∀ i,i<l.length→-2147483647≤l.getD i 0∧l.getD i 0≤2147483647
def Xhb (x l:List Int) (i:Nat):Int:=l.getD (2*i) 0+x.getD i 0+l.getD (2*i+1) 0
def Xqf (x l:List Int):Sh:=if l.length=2*x.length then (tab (Xhb x l) x.length,0) else ([],13)
def Qhu (axis:Nat) (l:List (List Int)) (k:Nat):Prop:=(l.getD k []).length=(l.getD 0 []).length∧∀ i,i<(l.getD 0 []).length→i≠axis→(l.getD k []).getD i 0=(l.getD 0 []).getD i 0
instance (axis:Nat) (l:List (List Int)) (k:Nat):Decidable (Qhu axis l k):=inferInstanceAs (Decidable (_∧∀ i,i<_→_))
def Xj8 (axis:Nat) (l:List (List Int)) (n:Nat):Bool:=(List.range n).all fun k=>decide (1≤k→Qhu axis l k)
theorem Qhv (axis:Nat) (l:List (List Int)) (n:Nat):Xj8 axis l n=true↔∀ k,k<n→1≤k→Qhu axis l k:=by simp only [Xj8,List.all_eq_true,List.mem_range,decide_eq_true_eq]
def Qa7 (axis:Nat) (l:List (List Int)):Nat→Int
 | 0=>0
 | k+1=>Qa7 axis l k+(l.getD k []).getD axis 0
def Qht (axis:Nat) (l:List (List Int)):Sh:=if axis<(l.getD 0 []).length∧Xj8 axis l l.length=true then ((l.getD 0 []).set axis (Qa7 axis l l.length),0) else ([],13)
theorem Xgh (l:List Int) {i:Nat} (h:i<l.length):l.set i (l.getD i 0)=l:=by
 rw [show l.getD i 0=l[i] by simp [List.getD,h]];exact List.set_getElem_self ..
theorem Xbg {axis:Nat} {l:List (List Int)} (hd:∀ k,k<l.length→∀ i,0≤(l.getD k []).getD i 0∧(l.getD k []).getD i 0≤1024):∀ k,k≤l.length→0≤Qa7 axis l k∧Qa7 axis l k≤1024*k
 | 0,_=>by simp [Qa7]
 | k+1,h=>by
  have h1:=Xbg (axis:=axis) hd k (by omega)
  have h2:=hd k (by omega) axis
  simp only [Qa7];omega
def Yc (o:Int) (a:List Int) (l:List (List Int)):Sh :=
 if o=1∨o=2∨o=3∨o=4 then (if l.getD 0 []=l.getD 1 [] then (l.getD 0 [],0) else ([],13))
 else if o=10 then Qab (l.getD 0 []) (l.getD 1 [])
 else if o=19 then (if (Qab (l.getD 0 []) (l.getD 1 [])).2≠0 then ([],(Qab (l.getD 0 []) (l.getD 1 [])).2) else if Xa (Qab (l.getD 0 []) (l.getD 1 [])).1≠0 then ([],14) else if Qad (l.getD 2 []) (Qab (l.getD 0 []) (l.getD 1 [])).1≠0 then ([],13) else ((Qab (l.getD 0 []) (l.getD 1 [])).1,0))
 else if o=11 then (if a.length=(l.getD 0 []).length then (tab (fun i=>(l.getD 0 []).getD (a.getD i 0).toNat 0) a.length,0) else ([],13))
 else if o=12 then (if Xf a=Xf (l.getD 0 []) then (a,0) else ([],13))
 else if o=13 then (if Qad (l.getD 0 []) a=0 then (a,0) else ([],13))
 else if o=14∨o=20 then (if a.length>0∧a.getD (a.length - 1) 0≥(l.getD 0 []).length then ([],13) else (Yz (l.getD 0 []) a (l.getD 0 []).length,0))
 else if o=15 then Xph (l.getD 0 []) a
 else if o=16 then Xqf (l.getD 0 []) a
 else if o=17 then Qht (a.getD 0 0).toNat l
 else (l.getD 0 [],0)
structure ComeOK (o:Int) (a:List Int) (l:List (List Int)):Prop where
 one:1≤l.length
 few:l.length≤1000
 two:(o=1∨o=2∨o=3∨o=4∨o=10∨o=19)→2≤l.length
 three:o=19→3≤l.length
 rank:∀ k,k<l.length→(l.getD k []).length≤4
 dim:∀ k,k<l.length→∀ i,0≤(l.getD k []).getD i 0∧(l.getD k []).getD i 0≤1024
 len:a.length≤17592186044416
 att:Att a
 perm:o=11→∀ i,i<a.length→0≤a.getD i 0∧a.getD i 0<a.length
 axis:o=17→a.length=1∧0≤a.getD 0 0∧a.getD 0 0≤3
def shV (r:Sh):V:=.tup [.sl r.1.length (ints r.1),.int .i64 r.2]
theorem Xpj (r:Sh):shV r=.tup [.sl r.1.length (ints r.1),.int .i64 r.2]:=rfl
attribute [go_sem] Xpj
def Qp1:List (List Int)→Int
 | []=>0
 | s::l=>if Xa s≠0 then Xa s else Qp1 l
theorem Xd8 {l:List (List Int)}:Qp1 l=0↔∀ s∈l,Xa s=0:=by
 induction l with
 | nil=>simp [Qp1]
 | cons s l ih =>
  simp only [Qp1,List.mem_cons,forall_eq_or_imp];split
  ·rename_i h;simp [h]
  ·rename_i h;simp only [ne_eq,Decidable.not_not] at h;simp [h,ih]
theorem Xa5 {l:List (List Int)} {i:Nat} (h:∀ j,j<i→Xa (l.getD j [])=0) (hi:i<l.length) (hn:Xa (l.getD i [])≠0):Qp1 l=Xa (l.getD i []):=by
 induction l generalizing i with
 | nil=>simp at hi
 | cons s l ih =>
  cases i with
  | zero=>simp only [Qp1,List.getD_cons_zero] at hn ⊢;rw [if_pos hn]
  | succ i =>
   have h0:=h 0 (by omega)
   simp only [List.getD_cons_zero] at h0;simp only [Qp1,List.getD_cons_succ] at hn ⊢;rw [if_neg (by simp [h0])]
   exact ih (fun j hj=>by have:=h (j+1) (by omega);simpa using this) (by simpa using hi) hn
theorem Xh7 {l:List (List Int)} (h:∀ j,j<l.length→Xa (l.getD j [])=0):Qp1 l=0:=by
 refine Xd8.2 fun s hs=>?_
 obtain ⟨j,hj,rfl⟩:=List.mem_iff_getElem.1 hs
 have:=h j hj
 simpa [List.getD,hj] using this
def Qbl (v:Int) (n:Nd) (l:List (List Int)):Sh :=
 if Yy v n≠0 then ([],Yy v n) else if l.length≠n.args.length then ([],10) else if Qp1 l≠0 then ([],Qp1 l)
 else if (Yc n.op (Jt v n (l.getD 0 []).length) l).2≠0 then ([],(Yc n.op (Jt v n (l.getD 0 []).length) l).2)
 else if Xa (Yc n.op (Jt v n (l.getD 0 []).length) l).1≠0 then ([],14) else Yc n.op (Jt v n (l.getD 0 []).length) l
theorem Qaw {v:Int} {d:Nd} (h:Yy v d=0):(1≤v∧v≤3)∧inP d.op v=true∧least d.op≤d.args.length∧d.args.length≤most d.op∧((d.attrs.length=0∧Qch v d.op=true)∨Ya d.op d.attrs=true):=by
 unfold Yy at h
 grind
theorem Qoo {o v:Int} (h:inP o v=true):1≤o∧o≤20:=by
 simp only [inP,decide_eq_true_eq] at h;omega
theorem Qh3 {k i:Nat} (h:i<k):(up k).getD i 0=i:=by simp [up,List.getD,h]
theorem Qcv {k i:Nat} (h:i<k):(down k).getD i 0=(k:Int) - 1 - i:=by
 have:=Qrb k i h
 have h2:((down k).take (i+1)).getD i 0=(down k).getD i 0:=by simp [List.getD,List.getElem?_take,h]
 rw [← h2,this]
 have hl:((down k).take i).length=i:=Qt9 (by rw [Jc];omega)
 rw [List.getD_eq_getElem?_getD,List.getElem?_append_right (by omega),hl];simp
theorem Ql1 {v:Int} {d:Nd} {l:List (List Int)} (r:Nat) (hat:d.attrs.length≤17592186044416) (hc:Yy v d=0) (hl:l.length=d.args.length) (hm:∀ j,j<l.length→Xa (l.getD j [])=0):ComeOK d.op (Jt v d r) l:=by
 obtain ⟨hv,hin,h1,h2,h3⟩:=Qaw hc
 have ho:=Qoo hin
 have hdim:∀ k,k<l.length→∀ i,0≤(l.getD k []).getD i 0∧(l.getD k []).getD i 0≤1024:=fun k hk i=>by
  obtain ⟨_,g2,g3⟩:=Qu (hm k hk);by_cases hi:i<(l.getD k []).length
  ·have:=Zq.1 g2 i hi
   have:=Xq g2 hi
   omega
  ·rw [List.getD_eq_getElem?_getD,List.getElem?_eq_none (by omega)];simp
 have hfew:most d.op≤8:=by unfold most least;omega
 have hone:1≤least d.op:=by unfold least;omega
 refine ⟨by omega,by omega,fun h=>?_,fun h=>?_,fun k hk=>(Qu (hm k hk)).1,hdim, ?_, ?_, ?_, ?_⟩
 ·have:2≤least d.op:=by unfold least;omega
  omega
 ·have:3≤least d.op:=by unfold least;omega
  omega
 all_goals
  by_cases hex:Yy v d≠0∨d.attrs.length>0∨Qch v d.op=false
  ·rw [Jt,if_pos hex]
   have hatt:Ya d.op d.attrs=true:=by
    rcases h3 with ⟨h3,h4⟩ | h3
    ·rcases hex with hex | hex | hex
     ·exact (hex hc).elim
     ·omega
     ·rw [h4] at hex;cases hex
    ·exact h3
   simp only [Ya,Bool.and_eq_true,Bool.not_eq_true'] at hatt;obtain ⟨hfar,hop⟩:=hatt
   first
    | exact hat
    | exact fun i hi=>Qep hfar hi
    | (intro h11 i hi
       rw [h11] at hop;rw [show Yu 11 d.attrs=(Zn d.attrs&&decide (d.attrs.length≤4)) from rfl] at hop;simp only [Bool.and_eq_true] at hop
       have:=(Qbu _).1 hop.1 i hi
       exact ⟨this.1,this.2.1⟩)
    | (intro h17
       rw [h17] at hop;rw [show Yu 17 d.attrs=decide (d.attrs.length=1∧0≤d.attrs.getD 0 0∧d.attrs.getD 0 0≤3) from rfl] at hop;exact of_decide_eq_true hop)
  ·rw [Jt,if_neg hex];generalize hR:(if r>4 then 0 else r)=R
   have hR4:R≤4:=by split at hR<;>omega
   split
   ·first
     | (show 1≤_;omega)
     | (intro i hi;simp at hi;subst hi;simp)
     | (intro h11;omega)
   ·split
    ·first
      | (show 1≤_;omega)
      | (intro i hi;simp at hi;subst hi;simp)
      | (intro h11;omega)
      | (intro h17;simp)
    ·split
     ·first
       | (rw [Jc];omega)
       | (intro i hi;rw [Jc] at hi;rw [Qcv hi];omega)
       | (intro h11 i hi;rw [Jc] at hi ⊢;rw [Qcv hi];omega)
       | (intro h17;omega)
     ·first
       | (rw [Qa0];omega)
       | (intro i hi;rw [Qa0] at hi;rw [Qh3 hi];omega)
       | (intro h11;omega)
       | (intro h17;omega)
end Go.Proofs.YtipmmjebfpbkmaaGreat
end
section
namespace Go.Proofs.YtipmmjebfpbkmaaGreat
open Go.Bv
def Qj6 (xs:List Int):Int:=if Qx xs>1024 then 1025 else Qx xs
theorem Qgj (xs:List Int) (hx:xs.length≤17592186044416) (h1:∀ d∈xs,1≤d):Pu C 52 [.sl xs.length (ints xs)] (.int .i64 (Qj6 xs)):=by
 refine zK Qf Tryz.func52 w52 Tryz.ntmps52 Tryz.results52 ?_;refine zG ?_;refine Qj (fun n ts H=>∃ k,(k≤xs.length)∧(Qx (xs.take k)≤1024)∧(n=xs.length - k)∧(H=[])∧ts.length=21∧nth ts 3=.int .i64 (Qx (xs.take k))∧nth ts 6=.sl xs.length (ints xs)∧nth ts 7=.int .i64 xs.length∧nth ts 8=.int .i64 k) ?_ (n:=xs.length) ?_
 ·skip
  rintro n ts H ⟨k,hk,hm,hn,hH,hL,hs3,hs6,hs7,hs8⟩;refine Xc [(3,.int .i64 (Qx (xs.take k))),(6,.sl xs.length (ints xs)),(7,.int .i64 xs.length),(8,.int .i64 k)] hL (by simp only [zFm,hs3,hs6,hs7,hs8,true_and];exact zNm) ?_
  clear hL hs3 hs6 hs7 hs8 ts
  refine Qz Qf ?_;subst hH hn
  have hm1:=Yp (l:=xs.take k) fun d hd=>h1 d (List.mem_of_mem_take hd)
  have hd0:0≤1024/Qx (xs.take k):=Int.ediv_nonneg (by omega) (by omega)
  have hd1:1024/Qx (xs.take k)≤1024:=Int.ediv_le_self _ (by omega)
  by_cases hlt:k<xs.length
  ·have hx1:=Zq.1 h1 k hlt
   have hle2:=Qhe h1 (k+1)
   rw [Jj hlt] at hle2;generalize hq:xs.getD k 0=q at hx1 hle2;by_cases hbig:1024<Qx (xs.take k)*q
   ·have hdiv:1024/Qx (xs.take k)<q:=Int.ediv_lt_of_lt_mul (by omega) (by rw [Int.mul_comm];exact hbig)
    refine zH1 hq ?_
    (refine Qo (by intro g;simp only [go_sem,ren,Qk]) ?_)
    rw [Qj6,if_pos (by omega)]
   ·have hdiv:q≤1024/Qx (xs.take k):=Int.le_ediv_of_mul_le (by omega) (by rw [Int.mul_comm];omega)
    have hpos:0≤Qx (xs.take k)*q:=Int.mul_nonneg (by omega) (by omega)
    refine zH1 hq ?_;exact ⟨_,by omega,k+1,by omega,by rw [Jj hlt,hq];omega,rfl,by rw [Jj hlt,hq],rfl⟩
  ·have e:xs.take k=xs:=List.take_of_length_le (by omega)
   rw [e] at hm;refine zG ?_
   (refine Qo (by intro g;simp only [go_sem,ren,Qk]) ?_)
   rw [Qj6,if_neg (by omega),e]
 ·exact ⟨0,by omega,by simp [Qx],rfl,rfl,rfl,rfl,rfl,rfl,rfl⟩
theorem Ku (xs:List Int) (hlx:xs.length≤17592186044416):Pu C 21 [.sl xs.length (ints xs)] (.int .i64 (Xa xs)):=by
 refine zK Qf Tryz.func21 w21 Tryz.ntmps21 Tryz.results21 ?_
 (refine zG ?_;(repeat' ((with_reducible apply zBr)<;>intro h<;>refine zG ?_))<;>try exact .intro)
 ·skip
  (refine Qo (by intro g;simp only [go_sem,ren,Qk]) ?_)
  congr 1;symm;rw [Xa,if_pos (by omega)]
 ·skip
  refine Qj (fun n ts H=>∃ i,(i≤xs.length)∧(∀ j,j<i→1≤xs.getD j 0)∧(n=xs.length - i)∧(H=[])∧ts.length=20∧nth ts 0=.sl xs.length (ints xs)∧nth ts 8=.sl xs.length (ints xs)∧nth ts 9=.int .i64 xs.length∧nth ts 10=.int .i64 i) ?_ (n:=xs.length) ?_
  ·skip
   rintro n ts H ⟨i,hi,ha,hn,hH,hL,hs0,hs8,hs9,hs10⟩;refine Xc [(0,.sl xs.length (ints xs)),(8,.sl xs.length (ints xs)),(9,.int .i64 xs.length),(10,.int .i64 i)] hL (by simp only [zFm,hs0,hs8,hs9,hs10,true_and];exact zNm) ?_
   clear hL hs0 hs8 hs9 hs10 ts
   refine Qz Qf ?_;subst hH hn
   (refine zG ?_;(repeat' ((with_reducible apply zBr)<;>intro h<;>refine zG ?_))<;>try exact .intro)
   ·skip
    (refine Qo (by intro g;simp only [go_sem,ren,Qk]) ?_)
    congr 1;symm;rw [Xa,if_neg (by omega),if_neg]
    intro hall;have:=Zq.1 (by simpa using hall) i (by omega);omega
   ·exact ⟨_,by omega,i+1,by omega,Qbc ha (by omega),rfl,(by (repeat' apply And.intro)<;>(first | rfl | omega | (congr 1;omega) | assumption | (congr 1;assumption)))⟩
   ·have hall:∀ d∈xs,1≤d:=Zq.2 fun j hj=>ha j (by omega)
    have hall':xs.all (fun d=>decide (1≤d))=true:=by simpa using hall
    have e1:Xa xs=if Qx xs>1024 then 14 else 0:=by rw [Xa,if_neg (by omega),if_pos hall']
    refine Fc.pure (Qgj xs hlx hall) (by simp [go_sem,Qh,clo,Qa,Qn]) (by intro g;simp only [go_sem,ren,Qk]) ?_
    have e2:1024<Qj6 xs↔1024<Qx xs:=by unfold Qj6;split<;>omega
    by_cases hb:1024<Qx xs
    ·have:=e2.2 hb
     refine zG ?_
     (refine Qo (by intro g;simp only [go_sem,ren,Qk]) ?_)
     rw [e1,if_pos (by omega)]
    ·have hnb:¬ 1024<Qj6 xs:=fun h=>hb (e2.1 h)
     refine zG ?_
     (refine Qo (by intro g;simp only [go_sem,ren,Qk]) ?_)
     rw [e1,if_neg (by omega)]
  ·exact ⟨0,by omega,fun j hj=>by omega,rfl,rfl,rfl,rfl,rfl,rfl,rfl⟩
theorem Qcx (xs:List Int) (hlx:xs.length≤17592186044416):Pu C 60 [.sl xs.length (ints xs)] (.int .i64 (Xf xs)):=by
 refine zK Qf Tryz.func60 w60 Tryz.ntmps60 Tryz.results60 ?_;refine zG ?_;refine Fc.pure (Ku xs hlx) (by simp [go_sem,Qh,clo,Qa,Qn]) (by intro g;simp only [go_sem,ren,Qk]) ?_
 (refine zG ?_;(repeat' ((with_reducible apply zBr)<;>intro h<;>refine zG ?_))<;>try exact .intro)
 ·skip
  (refine Qo (by intro g;simp only [go_sem,ren,Qk]) ?_)
  simp only [Xf,if_neg h]
 ·obtain ⟨h4,ha,hp⟩:=Qu h;refine Fc.pure (Qgj xs hlx ha) (by simp [go_sem,Qh,clo,Qa,Qn]) (by intro g;simp only [go_sem,ren,Qk]) ?_
  refine zG ?_
  (refine Qo (by intro g;simp only [go_sem,ren,Qk]) ?_)
  rw [Xf,if_pos h,Qj6,if_neg (by omega)]
theorem Xad (xs ys:List Int) (hx:xs.length≤17592186044416):Pu C 112 [.sl xs.length (ints xs),.sl ys.length (ints ys)] (.bool (decide (xs=ys))):=by
 refine zK Qf Tryz.func112 w112 Tryz.ntmps112 Tryz.results112 ?_
 (refine zG ?_;(repeat' ((with_reducible apply zBr)<;>intro h<;>refine zG ?_))<;>try exact .intro)
 ·skip
  (refine Qo (by intro g;simp only [go_sem,ren,Qk]) ?_)
  congr 1;symm;simp;rintro rfl;exact h rfl
 ·skip
  refine Qj (fun n ts H=>∃ i,(i≤xs.length)∧(∀ j,j<i→xs.getD j 0=ys.getD j 0)∧(n=xs.length - i)∧(H=[])∧ts.length=26∧nth ts 0=.sl xs.length (ints xs)∧nth ts 1=.sl ys.length (ints ys)∧nth ts 12=.int .i64 xs.length∧nth ts 13=.int .i64 i) ?_ (n:=xs.length) ?_
  ·skip
   rintro n ts H ⟨i,hi,he,hn,hH,hL,hs0,hs1,hs12,hs13⟩;refine Xc [(0,.sl xs.length (ints xs)),(1,.sl ys.length (ints ys)),(12,.int .i64 xs.length),(13,.int .i64 i)] hL (by simp only [zFm,hs0,hs1,hs12,hs13,true_and];exact zNm) ?_
   clear hL hs0 hs1 hs12 hs13 ts
   refine Qz Qf ?_;subst hH hn
   (refine zG ?_;(repeat' ((with_reducible apply zBr)<;>intro h<;>refine zG ?_))<;>try exact .intro)
   ·skip
    (refine Qo (by intro g;simp only [go_sem,ren,Qk]) ?_)
    congr 1;symm;simp;rintro rfl;exact h rfl
   ·exact ⟨_,by omega,i+1,by omega,Qbc he h,rfl,(by (repeat' apply And.intro)<;>(first | rfl | omega | (congr 1;omega) | assumption | (congr 1;assumption)))⟩
   ·skip
    (refine Qo (by intro g;simp only [go_sem,ren,Qk]) ?_)
    congr 1;symm;simp;exact Qeq (by omega) fun j hj=>he j (by omega)
  ·exact ⟨0,by omega,fun j hj=>by omega,rfl,rfl,rfl,rfl,rfl,rfl,rfl⟩
theorem Qma (xs ys:List Int) (hx:xs.length≤17592186044416):Pu C 56 [.sl xs.length (ints xs),.sl ys.length (ints ys)] (.bool (decide (xs=ys))):=by
 refine zK Qf Tryz.func56 w56 Tryz.ntmps56 Tryz.results56 ?_;refine zG ?_;refine Fc.pure (Xad xs ys hx) (by simp [go_sem,Qh,clo,Qa,Qn]) (by intro g;simp only [go_sem,ren,Qk]) ?_
 refine zG ?_
 (refine Qo (by intro g;simp only [go_sem,ren,Qk]) ?_)
 rfl
theorem Xac (xs:List Int) (m:Int) (hlx:xs.length≤17592186044416):Fc C 180 [.sl xs.length (ints xs),.int .i64 m] [] (fun v H=>(∃ i:Int,v=.int .i64 i∧-1≤i∧i<xs.length∧(xs.contains m=decide (0≤i)))∧H=[]):=by
 refine zK Qf Tryz.func180 w180 Tryz.ntmps180 Tryz.results180 ?_;refine zG ?_;refine Qj (fun n ts H=>∃ i,(i≤xs.length)∧(∀ j,j<i→m≠xs.getD j 0)∧(n=xs.length - i)∧(H=[])∧ts.length=19∧nth ts 0=.sl xs.length (ints xs)∧nth ts 1=.int .i64 m∧nth ts 7=.int .i64 xs.length∧nth ts 8=.int .i64 i) ?_ (n:=xs.length) ?_
 ·skip
  rintro n ts H ⟨i,hi,he,hn,hH,hL,hs0,hs1,hs7,hs8⟩;refine Xc [(0,.sl xs.length (ints xs)),(1,.int .i64 m),(7,.int .i64 xs.length),(8,.int .i64 i)] hL (by simp only [zFm,hs0,hs1,hs7,hs8,true_and];exact zNm) ?_
  clear hL hs0 hs1 hs7 hs8 ts
  refine Qz Qf ?_;subst hH hn
  (refine zG ?_;(repeat' ((with_reducible apply zBr)<;>intro h<;>refine zG ?_))<;>try exact .intro)
  ·refine ⟨[],by simp,by simp,⟨i,rfl,by omega,by omega, ?_⟩,rfl⟩
   have e:xs.getD i 0=xs[i]'(by omega):=by simp [List.getD,show i<xs.length by omega]
   rw [decide_eq_true (by omega),List.contains_iff_mem,h,e];exact List.getElem_mem _
  ·exact ⟨_,by omega,i+1,by omega,Qbc he h,rfl,(by (repeat' apply And.intro)<;>(first | rfl | omega | (congr 1;omega) | assumption | (congr 1;assumption)))⟩
  ·refine ⟨[],by simp,by simp,⟨-1,rfl,by omega,by omega, ?_⟩,rfl⟩
   have:=(Zq (xs:=xs) (p:=fun d=>m≠d)).2 fun j hj=>he j (by omega)
   simp;exact fun hm=>this m hm rfl
 ·exact ⟨0,by omega,fun j hj=>by omega,rfl,rfl,rfl,rfl,rfl,rfl,rfl⟩
theorem Qqa (xs:List Int) (m:Int) (hlx:xs.length≤17592186044416):Pu C 146 [.sl xs.length (ints xs),.int .i64 m] (.bool (xs.contains m)):=by
 refine zK Qf Tryz.func146 w146 Tryz.ntmps146 Tryz.results146 ?_;refine zG ?_;refine Fc.call (Xac xs m hlx) (by simp [Qh,clo,Qa]) ?_
 rintro v H' ⟨⟨i,rfl,h1,h2,h3⟩,rfl⟩;simp only [ren,Qbf,List.map_nil,List.append_nil];refine zG ?_
 (refine Qo (by intro g;simp only [go_sem,ren,Qk]) ?_)
 rw [h3]
theorem Qit (f t:List Int) (hf:f.length≤17592186044416) (ht:t.length≤17592186044416):Pu C 58 [.sl f.length (ints f),.sl t.length (ints t)] (.int .i64 (Qad f t)):=by
 refine zK Qf Tryz.func58 w58 Tryz.ntmps58 Tryz.results58 ?_;refine zG ?_;refine Qj (fun n ts H=>∃ i,(i≤2)∧(1≤i→Xa f=0)∧(2≤i→Xa t=0)∧(n=2 - i)∧(H=[some ⟨31,1,[.sl f.length (ints f),.sl t.length (ints t)]⟩])∧ts.length=52∧nth ts 0=.sl f.length (ints f)∧nth ts 1=.sl t.length (ints t)∧nth ts 13=.ref 0 0 2∧nth ts 14=.int .i64 2∧nth ts 15=.int .i64 i) ?_ (n:=2) ?_
 ·skip
  rintro n ts H ⟨i,hi,h0,h1,hn,hH,hL,hs0,hs1,hs13,hs14,hs15⟩;refine Xc [(0,.sl f.length (ints f)),(1,.sl t.length (ints t)),(13,.ref 0 0 2),(14,.int .i64 2),(15,.int .i64 i)] hL (by simp only [zFm,hs0,hs1,hs13,hs14,hs15,true_and];exact zNm) ?_
  clear hL hs0 hs1 hs13 hs14 hs15 ts
  refine Qz Qf ?_;subst hH hn;rcases (by omega:i=0∨i=1∨i=2) with rfl | rfl | rfl
  ·skip
   refine zG ?_;refine Fc.pure (Ku f hf) (by simp [go_sem,Qh,clo,Qa,Qn]) (by intro g;simp only [go_sem,ren,Qk]) ?_
   (refine zG ?_;(repeat' ((with_reducible apply zBr)<;>intro h<;>refine zG ?_))<;>try exact .intro)
   ·skip
    (refine Qo (by intro g;simp only [go_sem,ren,Qk]) ?_)
    simp only [Qad,if_neg h]
   ·exact ⟨_,by omega,1,by omega,fun _=>h,by omega,rfl,(by (repeat' apply And.intro)<;>(first | rfl | omega | (congr 1;omega) | assumption | (congr 1;assumption)))⟩
  ·have g0:=h0 (by omega)
   refine zG ?_;refine Fc.pure (Ku t ht) (by simp [go_sem,Qh,clo,Qa,Qn]) (by intro g;simp only [go_sem,ren,Qk]) ?_
   (refine zG ?_;(repeat' ((with_reducible apply zBr)<;>intro h<;>refine zG ?_))<;>try exact .intro)
   ·skip
    (refine Qo (by intro g;simp only [go_sem,ren,Qk]) ?_)
    simp only [Qad,if_pos g0,if_neg h]
   ·exact ⟨_,by omega,2,by omega,fun _=>g0,fun _=>h,rfl,(by (repeat' apply And.intro)<;>(first | rfl | omega | (congr 1;omega) | assumption | (congr 1;assumption)))⟩
  ·have g0:=h0 (by omega)
   have g1:=h1 (by omega)
   have hp:Qad f t=if okB f t then 0 else 13:=by simp only [Qad,if_pos g0,if_pos g1]
   obtain ⟨hf4,hf1,_⟩:=Qu g0;obtain ⟨ht4,ht1,_⟩:=Qu g1
   (refine zG ?_;(repeat' ((with_reducible apply zBr)<;>intro h<;>refine zG ?_))<;>try exact .intro)
   ·skip
    (refine Qo (by intro g;simp only [go_sem,ren,Qk]) ?_)
    rw [hp,if_neg];intro hok;have:=((Qkf f t).1 hok).1;omega
   ·skip
    refine Qj (fun n ts H=>∃ i,(i≤f.length)∧(∀ j,j<i→(f.getD j 0=1∨f.getD j 0=t.getD (t.length - f.length+j) 0))∧(n=f.length - i)∧ts.length=52∧nth ts 0=.sl f.length (ints f)∧nth ts 1=.sl t.length (ints t)∧nth ts 8=.int .i64 ((t.length - f.length:Nat):Int)∧nth ts 32=.sl f.length (ints f)∧nth ts 33=.int .i64 f.length∧nth ts 34=.int .i64 i) ?_ (n:=f.length) ?_
    ·skip
     rintro n ts H ⟨i,hi,ha,hn,hL,hs0,hs1,hs8,hs32,hs33,hs34⟩;refine Xc [(0,.sl f.length (ints f)),(1,.sl t.length (ints t)),(8,.int .i64 ((t.length - f.length:Nat):Int)),(32,.sl f.length (ints f)),(33,.int .i64 f.length),(34,.int .i64 i)] hL (by simp only [zFm,hs0,hs1,hs8,hs32,hs33,hs34,true_and];exact zNm) ?_
     clear hL hs0 hs1 hs8 hs32 hs33 hs34 ts
     refine Qz Qf ?_;subst hn
     have bad:i<f.length→¬ (f.getD i 0=1∨f.getD i 0=t.getD (t.length - f.length+i) 0)→Qad f t=13:=fun hi hb=>by
      rw [hp,if_neg];intro hok;exact hb (((Qkf f t).1 hok).2 i hi)
     (refine zG ?_;(repeat' ((with_reducible apply zBr)<;>intro h<;>refine zG ?_))<;>try exact .intro)
     ·skip
      (refine Qo (by intro g;simp only [go_sem,ren,Qk]) ?_)
      rw [bad (by omega) (by omega)]
     ·exact ⟨_,by omega,i+1,by omega,Qbc ha (by omega),rfl,(by (repeat' apply And.intro)<;>(first | rfl | omega | (congr 1;omega) | assumption | (congr 1;assumption)))⟩
     ·exact ⟨_,by omega,i+1,by omega,Qbc ha (by omega),rfl,(by (repeat' apply And.intro)<;>(first | rfl | omega | (congr 1;omega) | assumption | (congr 1;assumption)))⟩
     ·skip
      (refine Qo (by intro g;simp only [go_sem,ren,Qk]) ?_)
      rw [hp,if_pos];exact (Qkf f t).2 ⟨by omega,fun j hj=>ha j (by omega)⟩
    ·exact ⟨0,by omega,fun j hj=>by omega,rfl,rfl,rfl,rfl,by simp -implicitDefEqProofs (maxSteps:=9^7) (disch:=first | omega | (simp only [Je];omega)) only [go_sem];congr 1;omega,rfl,rfl,rfl⟩
 ·exact ⟨0,by omega,by omega,by omega,rfl,rfl,rfl,rfl,rfl,rfl,rfl,rfl⟩
def Xfe (l:List Int) (r:Int) (i:Nat):Prop:=(if i=0 then -1 else l.getD (i - 1) 0)<l.getD i 0∧l.getD i 0<r
def axB (l:List Int) (r:Int):Bool:=(List.range l.length).all fun i=>decide ((if i=0 then -1 else l.getD (i - 1) 0)<l.getD i 0∧l.getD i 0<r)
theorem Qk4 (l:List Int) (r:Int):axB l r=true↔∀ i,i<l.length→Xfe l r i:=by simp only [axB,Xfe,List.all_eq_true,List.mem_range,decide_eq_true_eq]
def axP (l:List Int) (r:Int):Int:=if axB l r=true then 0 else 11
theorem Qmc (l:List Int) (r:Int) (hl:l.length≤17592186044416):Pu C 61 [.sl l.length (ints l),.int .i64 r] (.int .i64 (axP l r)):=by
 refine zK Qf Tryz.func61 w61 Tryz.ntmps61 Tryz.results61 ?_;refine zG ?_;refine Qj (fun n ts H=>∃ i x,(i≤l.length)∧(x=(if i=0 then -1 else l.getD (i - 1) 0))∧(∀ j,j<i→Xfe l r j)∧(n=l.length - i)∧(H=[])∧ts.length=24∧nth ts 1=.int .i64 r∧nth ts 5=.int .i64 x∧nth ts 8=.sl l.length (ints l)∧nth ts 9=.int .i64 l.length∧nth ts 10=.int .i64 i) ?_ (n:=l.length) ?_
 ·skip
  rintro n ts H ⟨i,x,hi,hx,ha,hn,hH,hL,hs1,hs5,hs8,hs9,hs10⟩;refine Xc [(1,.int .i64 r),(5,.int .i64 x),(8,.sl l.length (ints l)),(9,.int .i64 l.length),(10,.int .i64 i)] hL (by simp only [zFm,hs1,hs5,hs8,hs9,hs10,true_and];exact zNm) ?_
  clear hL hs1 hs5 hs8 hs9 hs10 ts
  refine Qz Qf ?_;subst hH hn
  have bad:i<l.length→¬ Xfe l r i→axP l r=11:=fun hi hb=>by
   rw [axP,if_neg];intro hok;exact hb ((Qk4 l r).1 hok i hi)
  (refine zG ?_;(repeat' ((with_reducible apply zBr)<;>intro h<;>refine zG ?_))<;>try exact .intro)
  ·skip
   (refine Qo (by intro g;simp only [go_sem,ren,Qk]) ?_)
   rw [bad (by omega) (fun hh=>by have:=hh.1;omega)]
  ·skip
   (refine Qo (by intro g;simp only [go_sem,ren,Qk]) ?_)
   rw [bad (by omega) (fun hh=>by have:=hh.2;omega)]
  ·exact ⟨_,by omega,i+1,_,by omega,by rw [if_neg (by omega)],Qbc ha ⟨by omega,by omega⟩,rfl,(by (repeat' apply And.intro)<;>(first | rfl | omega | (congr 1;omega) | assumption | (congr 1;assumption)))⟩
  ·skip
   (refine Qo (by intro g;simp only [go_sem,ren,Qk]) ?_)
   rw [axP,if_pos];exact (Qk4 l r).2 fun j hj=>ha j (by omega)
 ·exact ⟨0, -1,by omega,rfl,fun j hj=>by omega,rfl,rfl,rfl,rfl,rfl,rfl,rfl,rfl⟩
theorem Xae (u:V) (H:Qb):Fc C 115 [u] H (fun v H'=>v=u∧H'=H):=by
 refine zL Qf Tryz.func115 w115 Tryz.ntmps115 Tryz.results115 ?_
 (refine zG ?_;(repeat' ((with_reducible apply zBr)<;>intro h<;>refine zG ?_))<;>try exact .intro)
theorem Qt6 (xs axes:List Int) (hx:xs.length≤17592186044416) (ha:axes.length≤17592186044416):Fc C 114 [.sl xs.length (ints xs),.sl axes.length (ints axes),.fn (.func 115) [] []] [] (fun v H=>Ret 3 1 H v (Yz xs axes xs.length).length (ints (Yz xs axes xs.length))):=by
 refine zK Qf Tryz.func114 w114 Tryz.ntmps114 Tryz.results114 ?_;refine zG ?_;refine Qj (fun n ts H=>∃ i u,(i≤xs.length)∧(n=xs.length - i)∧(Bv.Own 3 1 H u (Yz xs axes i).length (ints (Yz xs axes i)))∧ts.length=28∧nth ts 1=.sl axes.length (ints axes)∧nth ts 2=.fn (.func 115) [] []∧nth ts 6=u∧nth ts 9=.sl xs.length (ints xs)∧nth ts 10=.int .i64 xs.length∧nth ts 11=.int .i64 i) ?_ (n:=xs.length) ?_
 ·skip
  rintro n ts H ⟨i,u,hi,hn,hu,hL,hs1,hs2,hs6,hs9,hs10,hs11⟩;refine Xc [(1,.sl axes.length (ints axes)),(2,.fn (.func 115) [] []),(6,u),(9,.sl xs.length (ints xs)),(10,.int .i64 xs.length),(11,.int .i64 i)] hL (by simp only [zFm,hs1,hs2,hs6,hs9,hs10,hs11,true_and];exact zNm) ?_
  clear hL hs1 hs2 hs6 hs9 hs10 hs11 ts
  refine Qz Qf ?_;subst hn
  (refine zG ?_;(repeat' ((with_reducible apply zBr)<;>intro h<;>refine zG ?_))<;>try exact .intro)
  ·skip
   refine Fc.pure (Qqa axes i ha) (by simp [go_sem,Qh,clo,Qa,Qn]) (by intro g;simp only [go_sem,ren,Qk]) ?_
   (refine zG ?_;(repeat' ((with_reducible apply zBr)<;>intro h<;>refine zG ?_))<;>try exact .intro)
   ·refine Fc.mono (Xae u H) ?_;rintro v H' ⟨rfl,rfl⟩;refine zG ?_
    have hc:axes.contains (i:Int)=true:=by assumption
    exact ⟨_,by omega,i+1,_,by omega,rfl,by simpa only [Yz,hc,if_true,List.append_nil] using hu,(by (repeat' apply And.intro)<;>(first | rfl | omega | (congr 1;omega) | assumption | (congr 1;assumption)))⟩
   ·have hle:(Yz xs axes i).length≤i:=Qcb xs axes i
    refine Qcd hu rfl ⟨by decide,by decide⟩ (by omega) fun v' H' hu' _=>?_
    refine zG ?_
    have hc:axes.contains (i:Int)=false:=by assumption
    exact ⟨_,by omega,i+1,v',by omega,rfl,by simpa only [Yz,hc,Bool.false_eq_true,if_false] using hu',(by (repeat' apply And.intro)<;>(first | rfl | omega | (congr 1;omega) | assumption | (congr 1;assumption)))⟩
  ·obtain rfl:i=xs.length:=by omega
   exact hu.ret (fun g=>Ql g _) fun v H h=>h
 ·exact ⟨0,.nil,by omega,rfl,.nil ..,rfl,rfl,rfl,rfl,rfl,rfl,rfl⟩
theorem Qgh (xs axes:List Int) (hx:xs.length≤17592186044416) (ha:axes.length≤17592186044416):Fc C 62 [.sl xs.length (ints xs),.sl axes.length (ints axes)] [] (fun v H=>Ret 3 1 H v (Yz xs axes xs.length).length (ints (Yz xs axes xs.length))):=by
 refine zK Qf Tryz.func62 w62 Tryz.ntmps62 Tryz.results62 ?_;refine zG ?_;refine Fc.own (Qt6 xs axes hx ha) (by simp [Qh,clo,Qa]) (fun g=>Ql g _) fun v X hv=>?_
 refine zG ?_;exact hv.ret (fun g=>Ql g _) fun v H h=>h
theorem Qay (xs:List Int) (hx:xs.length≤1000000000000):Fc C 53 [.sl xs.length (ints xs)] [] (fun v H=>Ret 3 1 H v xs.length (ints xs)):=by
 refine zK Qf Tryz.func53 w53 Tryz.ntmps53 Tryz.results53 ?_;refine zG ?_;refine ⟨?_,fun h0=>?_⟩
 ·refine Qro rfl rfl ⟨by decide,by decide⟩ (by omega) (Yj xs) (Qf6 xs) fun v' H' hu' _=>?_
  refine zG ?_;exact hu'.ret (fun g=>Ql g _) fun v H h=>h
 ·have hn:xs=[]:=List.eq_nil_of_length_eq_zero h0
  subst hn;refine zG ?_;exact (Own.nil ..).ret (fun g=>Ql g []) fun v H h=>h
theorem Qaz (xs:List Int) (hx:xs.length≤1000000000000):Fc C 54 [.sl xs.length (ints xs)] [] (fun v H=>Ret 3 1 H v xs.length (ints xs)):=by
 refine zK Qf Tryz.func54 w54 Tryz.ntmps54 Tryz.results54 ?_;refine zG ?_;refine ⟨?_,fun h0=>?_⟩
 ·refine Qro rfl rfl ⟨by decide,by decide⟩ (by omega) (Yj xs) (Qf6 xs) fun v' H' hu' _=>?_
  refine zG ?_;exact hu'.ret (fun g=>Ql g _) fun v H h=>h
 ·have hn:xs=[]:=List.eq_nil_of_length_eq_zero h0
  subst hn;refine zG ?_;exact (Own.nil ..).ret (fun g=>Ql g []) fun v H h=>h
theorem Xmv (l:List Int):Pu C 171 [.sl l.length (ints l)] (.bool (decide (l.length=0))):=by
 refine zK Qf Tryz.func171 w171 Tryz.ntmps171 Tryz.results171 ?_;refine zG ?_
 (refine Qo (by intro g;simp only [go_sem,ren,Qk]) ?_)
 (simp only [V.tup.injEq,List.cons.injEq,V.int.injEq,V.bool.injEq,true_and,and_true];(try rw [Bool.eq_iff_iff]);(try simp only [decide_eq_true_eq,decide_eq_false_iff_not,Decidable.not_not,true_and,and_true,Bool.not_eq_true,Bool.not_eq_eq_eq_not,Bool.not_true,Bool.and_eq_true,Bool.or_eq_true,beq_iff_eq,bne_iff_ne,ne_eq,Bool.false_eq_true,false_iff,true_iff,iff_false,iff_true]);(try omega))
theorem Qqz (l:List Int) (m:Int):Pu C 198 [.sl l.length (ints l),.rp [.int .i64 m] 0] (.bool (decide (l.length=1∧0≤l.getD 0 0∧l.getD 0 0≤m))):=by
 refine zK Qf Tryz.func198 w198 Tryz.ntmps198 Tryz.results198 ?_
 (refine zG ?_;(repeat' ((with_reducible apply zBr)<;>intro h<;>refine zG ?_))<;>try exact .intro)
 all_goals (refine Qo (by intro g;simp only [go_sem,ren,Qk]) ?_)
 all_goals (simp only [V.tup.injEq,List.cons.injEq,V.int.injEq,V.bool.injEq,true_and,and_true];(try rw [Bool.eq_iff_iff]);(try simp only [decide_eq_true_eq,decide_eq_false_iff_not,Decidable.not_not,true_and,and_true,Bool.not_eq_true,Bool.not_eq_eq_eq_not,Bool.not_true,Bool.and_eq_true,Bool.or_eq_true,beq_iff_eq,bne_iff_ne,ne_eq,Bool.false_eq_true,false_iff,true_iff,iff_false,iff_true]);(try omega))
theorem Qrc (l:List Int) (hl:l.length≤17592186044416):Pu C 175 [.sl l.length (ints l)] (.bool (decide (Xa l=0))):=by
 refine zK Qf Tryz.func175 w175 Tryz.ntmps175 Tryz.results175 ?_;refine zG ?_;refine Fc.pure (Ku l hl) (by simp [go_sem,Qh,clo,Qa,Qn]) (by intro g;simp only [go_sem,ren,Qk]) ?_
 refine zG ?_
 (refine Qo (by intro g;simp only [go_sem,ren,Qk]) ?_)
 (simp only [V.tup.injEq,List.cons.injEq,V.int.injEq,V.bool.injEq,true_and,and_true];(try rw [Bool.eq_iff_iff]);(try simp only [decide_eq_true_eq,decide_eq_false_iff_not,Decidable.not_not,true_and,and_true,Bool.not_eq_true,Bool.not_eq_eq_eq_not,Bool.not_true,Bool.and_eq_true,Bool.or_eq_true,beq_iff_eq,bne_iff_ne,ne_eq,Bool.false_eq_true,false_iff,true_iff,iff_false,iff_true]);(try omega))
theorem Xkn (l:List Int):axB l 4=Qd8 l:=by
 rw [Bool.eq_iff_iff,Qk4,Qa1];constructor
 ·intro h i hi
  have pos:∀ i,i<l.length→0≤l.getD i 0:=by
   intro i
   induction i with
   | zero=>intro hi;have:=(h 0 hi).1;simp only [if_true] at this;omega
   | succ i ih=>intro hi;have:=(h (i+1) hi).1;rw [if_neg (by omega)] at this;have:=ih (by omega);simp only [Nat.add_sub_cancel] at *;omega
  have h1:=h i hi
  refine ⟨pos i hi,by have:=h1.2;omega,fun h0=>?_⟩
  have:=h1.1;rw [if_neg (by omega)] at this;exact this
 ·intro h i hi
  have h1:=h i hi
  refine ⟨?_,by have:=h1.2.1;omega⟩
  split
  ·have:=h1.1;omega
  ·exact h1.2.2 (by omega)
theorem Qme (l:List Int) (hl:l.length≤17592186044416):Pu C 176 [.sl l.length (ints l)] (.bool (Qd8 l)):=by
 refine zK Qf Tryz.func176 w176 Tryz.ntmps176 Tryz.results176 ?_;refine zG ?_;refine Fc.pure (Qmc l 4 hl) (by simp [go_sem,Qh,clo,Qa,Qn]) (by intro g;simp only [go_sem,ren,Qk]) ?_
 refine zG ?_
 (refine Qo (by intro g;simp only [go_sem,ren,Qk]) ?_)
 rw [← Xkn];unfold axP;cases axB l 4<;>rfl
theorem Xj5 (a b:Int):Pu C 178 [.int .i64 a,.int .i64 b] (.bool (decide (0≤a∧0≤b∧a<b))):=by
 refine zK Qf Tryz.func178 w178 Tryz.ntmps178 Tryz.results178 ?_
 (refine zG ?_;(repeat' ((with_reducible apply zBr)<;>intro h<;>refine zG ?_))<;>try exact .intro)
 all_goals (refine Qo (by intro g;simp only [go_sem,ren,Qk]) ?_)
 all_goals (simp only [V.tup.injEq,List.cons.injEq,V.int.injEq,V.bool.injEq,true_and,and_true];(try rw [Bool.eq_iff_iff]);(try simp only [decide_eq_true_eq,decide_eq_false_iff_not,Decidable.not_not,true_and,and_true,Bool.not_eq_true,Bool.not_eq_eq_eq_not,Bool.not_true,Bool.and_eq_true,Bool.or_eq_true,beq_iff_eq,bne_iff_ne,ne_eq,Bool.false_eq_true,false_iff,true_iff,iff_false,iff_true]);(try omega))
theorem Xg0 (a b:Int):Pu C 179 [.int .i64 a,.int .i64 b] (.bool (decide (0≤a∧0≤b))):=by
 refine zK Qf Tryz.func179 w179 Tryz.ntmps179 Tryz.results179 ?_;refine zG ?_
 all_goals (refine Qo (by intro g;simp only [go_sem,ren,Qk]) ?_)
 all_goals (simp only [V.tup.injEq,List.cons.injEq,V.int.injEq,V.bool.injEq,true_and,and_true];(try rw [Bool.eq_iff_iff]);(try simp only [decide_eq_true_eq,decide_eq_false_iff_not,Decidable.not_not,true_and,and_true,Bool.not_eq_true,Bool.not_eq_eq_eq_not,Bool.not_true,Bool.and_eq_true,Bool.or_eq_true,beq_iff_eq,bne_iff_ne,ne_eq,Bool.false_eq_true,false_iff,true_iff,iff_false,iff_true]);(try omega))
theorem Qr7 (l:List Int) (ha:Att l):Pu C 173 [.sl l.length (ints l)] (.bool (decide (l.length=2∧1≤l.getD 1 0∧Nat.gcd (l.getD 0 0).natAbs (l.getD 1 0).natAbs=1))):=by
 refine zK Qf Tryz.func173 w173 Tryz.ntmps173 Tryz.results173 ?_;by_cases h2:l.length=2
 ·have h0:=ha 0 (by omega)
  have h1:=ha 1 (by omega)
  (refine zG ?_;(repeat' ((with_reducible apply zBr)<;>intro h<;>refine zG ?_))<;>try exact .intro)
  ·skip
   (refine Qo (by intro g;simp only [go_sem,ren,Qk]) ?_)
   (simp only [V.tup.injEq,List.cons.injEq,V.int.injEq,V.bool.injEq,true_and,and_true];(try rw [Bool.eq_iff_iff]);(try simp only [decide_eq_true_eq,decide_eq_false_iff_not,Decidable.not_not,true_and,and_true,Bool.not_eq_true,Bool.not_eq_eq_eq_not,Bool.not_true,Bool.and_eq_true,Bool.or_eq_true,beq_iff_eq,bne_iff_ne,ne_eq,Bool.false_eq_true,false_iff,true_iff,iff_false,iff_true]);(try omega))
  ·skip
   refine Qj (fun n ts H=>∃ a b,(a≤2147483647)∧(b≤2147483647)∧(Nat.gcd a b=Nat.gcd (l.getD 0 0).natAbs (l.getD 1 0).natAbs)∧(n=b)∧(H=[])∧ts.length=33∧nth ts 3=.int .i64 (a:Nat)∧nth ts 4=.int .i64 (b:Nat)) ?_ (n:=(l.getD 1 0).natAbs) ?_
   ·skip
    rintro n ts H ⟨a,b,ha,hb,hg,hn,hH,hL,hs3,hs4⟩;refine Xc [(3,.int .i64 (a:Nat)),(4,.int .i64 (b:Nat))] hL (by simp only [zFm,hs3,hs4,true_and];exact zNm) ?_
    clear hL hs3 hs4 ts
    refine Qz Qf ?_;subst hH hn
    (refine zG ?_;(repeat' ((with_reducible apply zBr)<;>intro h<;>refine zG ?_))<;>try exact .intro)
    ·have e1:(a:Int)%(n:Int)=((a%n:Nat):Int):=by simp
     have hm:a%n<n:=Nat.mod_lt _ (by omega)
     exact ⟨_,hm,n,a%n,hb,by omega,by rw [Nat.gcd_comm,← hg,Nat.gcd_comm a n,Nat.gcd_rec n a],rfl,rfl,by rw [e1]⟩
    ·obtain rfl:n=0:=by omega
     rw [Nat.gcd_zero_right] at hg
     (refine Qo (by intro g;simp only [go_sem,ren,Qk]) ?_)
     simp only [← hg]
     (simp only [V.tup.injEq,List.cons.injEq,V.int.injEq,V.bool.injEq,true_and,and_true];(try rw [Bool.eq_iff_iff]);(try simp only [decide_eq_true_eq,decide_eq_false_iff_not,Decidable.not_not,true_and,and_true,Bool.not_eq_true,Bool.not_eq_eq_eq_not,Bool.not_true,Bool.and_eq_true,Bool.or_eq_true,beq_iff_eq,bne_iff_ne,ne_eq,Bool.false_eq_true,false_iff,true_iff,iff_false,iff_true]);(try omega))
   ·refine ⟨(l.getD 0 0).natAbs,(l.getD 1 0).natAbs,by omega,by omega,rfl,rfl,rfl,rfl, ?_, ?_⟩
    ·skip
     simp -implicitDefEqProofs (maxSteps:=9^7) (disch:=first | omega | (simp only [Je];omega)) only [go_sem];congr 1;split<;>omega
    ·skip
     simp -implicitDefEqProofs (maxSteps:=9^7) (disch:=first | omega | (simp only [Je];omega)) only [go_sem];congr 1;omega
 ·skip
  refine zG ?_
  (refine Qo (by intro g;simp only [go_sem,ren,Qk]) ?_)
  (simp only [V.tup.injEq,List.cons.injEq,V.int.injEq,V.bool.injEq,true_and,and_true];(try rw [Bool.eq_iff_iff]);(try simp only [decide_eq_true_eq,decide_eq_false_iff_not,Decidable.not_not,true_and,and_true,Bool.not_eq_true,Bool.not_eq_eq_eq_not,Bool.not_true,Bool.and_eq_true,Bool.or_eq_true,beq_iff_eq,bne_iff_ne,ne_eq,Bool.false_eq_true,false_iff,true_iff,iff_false,iff_true]);(try omega))
theorem Qmh (l:List Int) (g:Nat) (cut:Bool) (hl:l.length≤17592186044416) (hg:∀ a b:Int,Pu C g [.int .i64 a,.int .i64 b] (.bool (decide (0≤a∧0≤b∧(cut=true→a<b))))) :
  Pu C 199 [.sl l.length (ints l),.rp [.fn (.func g) [] []] 0] (.bool (Qfz cut l)):=by
 refine zK Qf Tryz.func199 w199 Tryz.ntmps199 Tryz.results199 ?_
 (refine zG ?_;(repeat' ((with_reducible apply zBr)<;>intro h<;>refine zG ?_))<;>try exact .intro)
 ·skip
  (refine Qo (by intro g;simp only [go_sem,ren,Qk]) ?_)
  rw [Qfy (fun h=>by have:=h.1;omega)]
 ·skip
  (refine Qo (by intro g;simp only [go_sem,ren,Qk]) ?_)
  rw [Qfy (fun h=>by have:=h.2.1;omega)]
 ·skip
  refine Qj (fun n ts H=>∃ k,(k≤l.length/2)∧(∀ j,j<k→Qhg cut l j)∧(n=l.length/2 - k)∧(H=[])∧ts.length=32∧nth ts 0=.sl l.length (ints l)∧nth ts 1=.rp [.fn (.func g) [] []] 0∧nth ts 4=.int .i64 (2*k:Nat)) ?_ (n:=l.length/2) ?_
  ·skip
   rintro n ts H ⟨k,hi,hp,hn,hH,hL,hs0,hs1,hs4⟩;refine Xc [(0,.sl l.length (ints l)),(1,.rp [.fn (.func g) [] []] 0),(4,.int .i64 (2*k:Nat))] hL (by simp only [zFm,hs0,hs1,hs4,true_and];exact zNm) ?_
   clear hL hs0 hs1 hs4 ts
   refine Qz Qf ?_;subst hH hn
   have bad:2*k<l.length→¬ Qhg cut l k→Qfz cut l=false:=fun h1 h2=>Qfy fun h=>h2 (h.2.2 k (by omega))
   (refine zG ?_;(repeat' ((with_reducible apply zBr)<;>intro h<;>refine zG ?_))<;>try exact .intro)
   ·first | refine RunU.now ?_ | refine RunP.now ?_
    refine zG ?_;refine Pc.pure (hg _ _) (by simp [go_sem,Qh,clo,Qa,Qn]) (by intro g;simp only [go_sem,ren,Qk]) ?_
    (refine zG ?_;(repeat' ((with_reducible apply zBr)<;>intro h<;>refine zG ?_))<;>try exact .intro)
    ·exact ⟨_,by omega,k+1,by omega,Qbc hp (by assumption),rfl,(by (repeat' apply And.intro)<;>(first | rfl | omega | (congr 1;omega) | assumption | (congr 1;assumption)))⟩
    ·skip
     (refine Qo (by intro g;simp only [go_sem,ren,Qk]) ?_)
     rw [bad (by omega) (by assumption)]
   ·skip
    (refine Qo (by intro g;simp only [go_sem,ren,Qk]) ?_)
    rw [(Qcn _ l).2 ⟨by omega,by omega,fun j hj=>hp j (by omega)⟩]
  ·exact ⟨0,by omega,fun j hj=>by omega,rfl,rfl,rfl,rfl,rfl,rfl⟩
structure RowS where
 op:Int
 name:ByteArray
 first:Int
 last:Int
 least:Int
 most:Int
 may:V
 none:Int
def Qdf (r:RowS):List V:=[.int .i64 r.op,.str r.name,.int .i64 r.first,.int .i64 r.last,.int .i64 r.least,.int .i64 r.most,r.may,.int .i64 r.none]
def vno:V:=.fn (.func 171) [] []
def Xfw (m:Int):V:=.fn (.func 198) [] [.rp [.int .i64 m] 0]
def Qng (g:Nat):V:=.fn (.func 199) [] [.rp [.fn (.func g) [] []] 0]
def Xuf:V:=.fn (.func 173) [] []
def Xue:V:=.fn (.func 174) [] []
def Xtb:V:=.fn (.func 175) [] []
def Xta:V:=.fn (.func 176) [] []
theorem Xli (m:Int):Xfw m=.fn (.func 198) [] [.rp [.int .i64 m] 0]:=rfl
theorem Xbz (g:Nat):Qng g=.fn (.func 199) [] [.rp [.fn (.func g) [] []] 0]:=rfl
attribute [go_sem] Xli Xbz
theorem Qu4 (m:Int):Pu C 172 [.int .i64 m] (Xfw m):=by
 refine Fc.keep (Fc.sealR ?_);refine zL Qf Tryz.func172 w172 Tryz.ntmps172 Tryz.results172 ?_;refine zG ?_;refine ⟨0,3,1,[.int .i64 m],rfl,rfl,[],by simp,by simp, ?_⟩
 simp [sz,szL,ren,Qk,Xfw,Qck]
theorem Qmg (g:Nat):Pu C 177 [.fn (.func g) [] []] (Qng g):=by
 refine Fc.keep (Fc.sealR ?_);refine zL Qf Tryz.func177 w177 Tryz.ntmps177 Tryz.results177 ?_;refine zG ?_;refine ⟨0,_,1,[.fn (.func g) [] []],rfl,rfl,[],by simp,by simp, ?_⟩
 simp [sz,szL,ren,Qk,Qng,Qck]
def opsT:List RowS:=[⟨1,⟨#[97,100,100]⟩,1,3,2,2,vno,0⟩,
 ⟨2,⟨#[115,117,98]⟩,1,3,2,2,vno,0⟩,
 ⟨3,⟨#[109,117,108]⟩,1,3,2,2,vno,0⟩,
 ⟨4,⟨#[100,105,118]⟩,1,3,2,2,vno,0⟩,
 ⟨5,⟨#[110,101,103]⟩,1,3,1,1,vno,0⟩,
 ⟨6,⟨#[112,111,119]⟩,1,3,1,1,Xfw 16,1⟩,
 ⟨7,⟨#[114,101,108,117]⟩,1,3,1,1,vno,0⟩,
 ⟨8,⟨#[115,116,101,112]⟩,3,3,1,1,vno,0⟩,
 ⟨9,⟨#[115,99,97,108,101]⟩,3,3,1,1,Xuf,0⟩,
 ⟨10,⟨#[109,97,116,109,117,108]⟩,1,3,2,2,vno,0⟩,
 ⟨11,⟨#[116,114,97,110,115,112,111,115,101]⟩,1,3,1,1,Xue,1⟩,
 ⟨12,⟨#[114,101,115,104,97,112,101]⟩,1,3,1,1,Xtb,0⟩,
 ⟨13,⟨#[98,114,111,97,100,99,97,115,116]⟩,1,3,1,1,Xtb,0⟩,
 ⟨14,⟨#[115,117,109]⟩,1,3,1,1,Xta,2⟩,
 ⟨15,⟨#[115,108,105,99,101]⟩,1,3,1,1,Qng 178,0⟩,
 ⟨16,⟨#[112,97,100]⟩,1,3,1,1,Qng 179,0⟩,
 ⟨17,⟨#[99,111,110,99,97,116]⟩,1,3,1,8,Xfw 3,1⟩,
 ⟨18,⟨#[115,113,117,97,114,101]⟩,1,1,1,1,vno,0⟩,
 ⟨19,⟨#[103,101,109,109]⟩,1,2,3,3,vno,0⟩,
 ⟨20,⟨#[109,101,97,110]⟩,1,2,1,1,Xta,2⟩]
theorem Qxb:Pu C 144 [] (.sl 20 (opsT.flatMap Qdf)):=by
 refine Fc.keep (Fc.sealR ?_);refine zL Qf Tryz.func144 w144 Tryz.ntmps144 Tryz.results144 ?_;refine zG ?_;refine Fc.pure (Qu4 16) (by simp [go_sem,Qh,clo,Qa,Qn]) (by intro g;simp only [go_sem,ren,Qk]) ?_
 refine zG ?_;refine Fc.pure (Qmg _) (by simp [go_sem,Qh,clo,Qa,Qn]) (by intro g;simp only [go_sem,ren,Qk]) ?_
 refine zG ?_;refine Fc.pure (Qmg _) (by simp [go_sem,Qh,clo,Qa,Qn]) (by intro g;simp only [go_sem,ren,Qk]) ?_
 refine zG ?_;refine Fc.pure (Qu4 3) (by simp [go_sem,Qh,clo,Qa,Qn]) (by intro g;simp only [go_sem,ren,Qk]) ?_
 refine zG ?_;refine ⟨0,82,8,_,rfl,rfl,[],by simp,by simp, ?_⟩
 refine ⟨?_,rfl⟩
 rfl
end Go.Proofs.YtipmmjebfpbkmaaGreat
end
section
namespace Go.Proofs.YtipmmjebfpbkmaaGreat
open Go.Bv
def Qrt:RowS:=⟨0,⟨#[]⟩,0,0,0,0,.nilf,0⟩
theorem Jf (r:RowS):Qdf r=[.int .i64 r.op,.str r.name,.int .i64 r.first,.int .i64 r.last,.int .i64 r.least,.int .i64 r.most,r.may,.int .i64 r.none]:=rfl
theorem Xgx (l:List RowS):(l.flatMap Qdf).length=l.length*8:=by
 induction l with
 | nil=>rfl
 | cons a l ih=>simp only [List.flatMap_cons,List.length_append,ih,List.length_cons];simp only [Qdf,List.length_cons,List.length_nil];omega
theorem Xjl (l:List RowS):∀ (i o:Nat),i<l.length→o<8→nth (l.flatMap Qdf) (i*8+o)=nth (Qdf (l.getD i Qrt)) o:=by
 induction l with
 | nil=>intro i o h;simp at h
 | cons a l ih =>
  intro i o hi ho;rw [List.flatMap_cons,Zy]
  have h8:(Qdf a).length=8:=rfl
  cases i with
  | zero=>rw [if_pos (by omega)];simp
  | succ i =>
   rw [if_neg (by omega),h8,show (i+1)*8+o - 8=i*8+o by omega,ih i o (by simpa using hi) ho];simp
theorem Xjk (l:List RowS) (i:Nat) (hi:i<l.length):win (l.flatMap Qdf) (i*8) 8=Qdf (l.getD i Qrt):=by
 refine Qkj (by rw [Qnf];rfl) fun j=>?_
 rw [Xa0];split
 ·rename_i h;exact Xjl l i j hi h
 ·rename_i h;rw [Qba _ _ (by show 8≤j;omega)]
attribute [go_sem] Xgx
attribute [go_sem high] Xjk
theorem Qka:opsT.length=20:=rfl
theorem Xmg {j:Nat} (h:j<20):(opsT.getD j Qrt).op=j+1:=by
 rcases j with _ | _ | _ | _ | _ | _ | _ | _ | _ | _ | _ | _ | _ | _ | _ | _ | _ | _ | _ | _ | j
 all_goals first | rfl | omega
theorem Xhq (r:RowS) (o:Int) (hc:clo r.may=true):Pu C 110 [.agg (Qdf r),.rp [.int .i64 o] 0] (.bool (r.op==o)):=by
 refine zK Qf Tryz.func110 w110 Tryz.ntmps110 Tryz.results110 ?_;refine zH1 Jf ?_
 (refine Qo (by intro g;simp only [go_sem,ren,Qk]) ?_)
 rfl
theorem Qj9 {j:Nat}:clo (opsT.getD j Qrt).may=true:=by
 by_cases h:j<20
 ·rcases j with _ | _ | _ | _ | _ | _ | _ | _ | _ | _ | _ | _ | _ | _ | _ | _ | _ | _ | _ | _ | j
  all_goals first | rfl | omega
 ·rw [List.getD_eq_getElem?_getD,List.getElem?_eq_none (by rw [Qka];omega)];rfl
theorem Qrf (r:RowS) (h:clo r.may=true):Qh (Qdf r)=true:=by simp [Qdf,Qh,clo,h]
theorem Xe6:Qh (opsT.flatMap Qdf)=true:=by rfl
theorem Qqx {j:Nat}:Yq (opsT.getD j Qrt).may=true:=by
 by_cases h:j<20
 ·rcases j with _ | _ | _ | _ | _ | _ | _ | _ | _ | _ | _ | _ | _ | _ | _ | _ | _ | _ | _ | _ | j
  all_goals first | rfl | omega
 ·rw [List.getD_eq_getElem?_getD,List.getElem?_eq_none (by rw [Qka];omega)];rfl
theorem Xcu (g:Nat→Option Nat):Qk g (opsT.flatMap Qdf)=opsT.flatMap Qdf:=by rfl
attribute [go_sem] Xcu
def ixO (o:Int):Int:=if 1≤o∧o≤20 then o - 1 else -1
theorem Qm2 (o:Int):Pu C 145 [.sl 20 (opsT.flatMap Qdf),.fn (.func 110) [] [.rp [.int .i64 o] 0]] (.int .i64 (ixO o)):=by
 refine zK Qf Tryz.func145 w145 Tryz.ntmps145 Tryz.results145 ?_;refine zG ?_;refine Qj (fun n ts H=>∃ (i:Nat),(i≤20)∧(∀ j,j<i→((j:Int)+1)≠o)∧(n=20 - i)∧(H=[])∧ts.length=19∧nth ts 0=.sl 20 (opsT.flatMap Qdf)∧nth ts 1=.fn (.func 110) [] [.rp [.int .i64 o] 0]∧nth ts 7=.int .i64 20∧nth ts 8=.int .i64 i) ?_ (n:=20) ?_
 ·skip
  rintro n ts H ⟨i,hi,he,hn,hH,hL,hs0,hs1,hs7,hs8⟩;refine Xc [(0,.sl 20 (opsT.flatMap Qdf)),(1,.fn (.func 110) [] [.rp [.int .i64 o] 0]),(7,.int .i64 20),(8,.int .i64 i)] hL (by simp only [zFm,hs0,hs1,hs7,hs8,true_and];exact zNm) ?_
  clear hL hs0 hs1 hs7 hs8 ts
  refine Qz Qf ?_;subst hH hn
  have hT:=Qka
  by_cases hlt:i<20
  ·have ho:=Xmg hlt
   refine zG ?_;refine Fc.pure (Xhq _ o Qj9) (by simp only [Qh,clo,Qrf _ Qj9,Bool.and_self]) (fun g=>rfl) ?_
   (refine zH1 ho ?_;(repeat' ((with_reducible apply zBr)<;>intro h<;>refine zH1 ho ?_))<;>try exact .intro)
   ·skip
    (refine Qo (by intro g;simp only [go_sem,ren,Qk]) ?_)
    congr 1;rw [ixO];split<;>omega
   ·exact ⟨_,by omega,i+1,by omega,Qbc he (by omega),rfl,(by (repeat' apply And.intro)<;>(first | rfl | omega | (congr 1;omega) | assumption | (congr 1;assumption)))⟩
  ·obtain rfl:i=20:=by omega
   refine zG ?_
   (refine Qo (by intro g;simp only [go_sem,ren,Qk]) ?_)
   congr 1;rw [ixO,if_neg]
   intro h;exact he (o.toNat - 1) (by omega) (by omega)
 ·exact ⟨0,by omega,fun j hj=>by omega,rfl,rfl,rfl,rfl,rfl,rfl,rfl⟩
def Ji (o:Int):RowS:=if 1≤o∧o≤20 then opsT.getD (o - 1).toNat Qrt else Qrt
theorem Qi7 (o:Int):clo (Ji o).may=true:=by
 unfold Ji;split
 ·exact Qj9
 ·rfl
def ofV (o:Int):V:=.tup [.agg (Qdf (Ji o)),.bool (decide (1≤o∧o≤20))]
theorem Xex (o:Int):Pu C 109 [.fn (.func 110) [] [.rp [.int .i64 o] 0]] (ofV o):=by
 refine zK Qf Tryz.func109 w109 Tryz.ntmps109 Tryz.results109 ?_;refine zG ?_;refine Fc.pure (Qxb) (by simp [go_sem,Qh,clo,Qa,Qn]) (by intro g;simp only [go_sem,ren,Qk]) ?_
 refine zG ?_;refine Fc.pure (Qm2 o) (by simp [Qh,clo,Xe6]) (fun g=>rfl) ?_
 have hT:=Qka
 by_cases h:1≤o∧o≤20
 ·have hi:ixO o=((o.toNat - 1:Nat):Int):=by rw [ixO,if_pos h];omega
  rw [hi]
  have hs:=Qqx (j:=o.toNat - 1)
  have hm:=Qj9 (j:=o.toNat - 1)
  have hr:Ji o=opsT.getD (o.toNat - 1) Qrt:=by rw [Ji,if_pos h];congr 1;omega
  rw [ofV,hr,decide_eq_true h];refine zH2 Jf hs ?_;exact Qo (fun g=>Qy g _ (by simp only [clo,Qh,hm,Bool.and_self])) rfl
 ·have hi:ixO o=-1:=by rw [ixO,if_neg h]
  rw [hi]
  have hr:Ji o=Qrt:=by rw [Ji,if_neg h]
  rw [ofV,hr,decide_eq_false h];refine zH1 Jf ?_;exact Qo (fun g=>rfl) rfl
theorem Qhx (o:Int):Qh (Qdf (Ji o))=true:=Qrf _ (Qi7 o)
theorem Qhd (o:Int):Yq (Ji o).may=true:=by
 unfold Ji;split
 ·exact Qqx
 ·rfl
theorem Qu5 (o:Int):Pu C 48 [.int .i64 o] (ofV o):=by
 refine zK Qf Tryz.func48 w48 Tryz.ntmps48 Tryz.results48 ?_;refine zG ?_;refine Fc.sealed (r:=0) (cs:=[.int .i64 o]) rfl rfl ?_;simp only [szL,sz,if_true,List.set_cons_zero]
 have hs:=Qhd o
 have hm:=Qi7 o
 refine Fc.pure (Xex o) rfl (fun g=>Qy g _ (by simp only [ofV,clo,Qh,Qhx,Bool.and_self])) ?_
 rw [ofV];generalize Ji o=r at hs hm;refine zH2 Jf hs ?_;exact Qo (fun g=>Qy g _ (by simp only [clo,Qh,hm,Bool.and_self])) rfl
theorem Xnb (r:RowS) (v:Int):Pu C 50 [.agg (Qdf r),.int .i64 v] (.bool (decide (r.first≤v∧v≤r.last))):=by
 refine zK Qf Tryz.func50 w50 Tryz.ntmps50 Tryz.results50 ?_
 (refine zH1 Jf ?_;(repeat' ((with_reducible apply zBr)<;>intro h<;>refine zH1 Jf ?_))<;>try exact .intro)
 all_goals (refine Qo (by intro g;simp only [go_sem,ren,Qk]) ?_)
 all_goals (simp only [V.tup.injEq,List.cons.injEq,V.int.injEq,V.bool.injEq,true_and,and_true];(try rw [Bool.eq_iff_iff]);(try simp only [decide_eq_true_eq,decide_eq_false_iff_not,Decidable.not_not,true_and,and_true,Bool.not_eq_true,Bool.not_eq_eq_eq_not,Bool.not_true,Bool.and_eq_true,Bool.or_eq_true,beq_iff_eq,bne_iff_ne,ne_eq,Bool.false_eq_true,false_iff,true_iff,iff_false,iff_true]);(try omega))
theorem Xjn (a:Int):Pu C 49 [.int .i64 a] (.bool (decide (a>2147483647∨a< -2147483647))):=by
 refine zK Qf Tryz.func49 w49 Tryz.ntmps49 Tryz.results49 ?_
 (refine zG ?_;(repeat' ((with_reducible apply zBr)<;>intro h<;>refine zG ?_))<;>try exact .intro)
 all_goals (refine Qo (by intro g;simp only [go_sem,ren,Qk]) ?_)
 all_goals (simp only [V.tup.injEq,List.cons.injEq,V.int.injEq,V.bool.injEq,true_and,and_true];(try rw [Bool.eq_iff_iff]);(try simp only [decide_eq_true_eq,decide_eq_false_iff_not,Decidable.not_not,true_and,and_true,Bool.not_eq_true,Bool.not_eq_eq_eq_not,Bool.not_true,Bool.and_eq_true,Bool.or_eq_true,beq_iff_eq,bne_iff_ne,ne_eq,Bool.false_eq_true,false_iff,true_iff,iff_false,iff_true]);(try omega))
theorem Qm3 (l:List Int) (hl:l.length≤17592186044416):Fc C 111 [.sl l.length (ints l),.fn (.func 49) [] []] [] (fun v H=>(∃ i:Int,v=.int .i64 i∧Qhq l=decide (0≤i))∧H=[]):=by
 refine zK Qf Tryz.func111 w111 Tryz.ntmps111 Tryz.results111 ?_;refine zG ?_;refine Qj (fun n ts H=>∃ i,(i≤l.length)∧(∀ j,j<i→¬ (l.getD j 0>2147483647∨l.getD j 0< -2147483647))∧(n=l.length - i)∧(H=[])∧ts.length=19∧nth ts 0=.sl l.length (ints l)∧nth ts 1=.fn (.func 49) [] []∧nth ts 7=.int .i64 l.length∧nth ts 8=.int .i64 i) ?_ (n:=l.length) ?_
 ·skip
  rintro n ts H ⟨i,hi,he,hn,hH,hL,hs0,hs1,hs7,hs8⟩;refine Xc [(0,.sl l.length (ints l)),(1,.fn (.func 49) [] []),(7,.int .i64 l.length),(8,.int .i64 i)] hL (by simp only [zFm,hs0,hs1,hs7,hs8,true_and];exact zNm) ?_
  clear hL hs0 hs1 hs7 hs8 ts
  refine Qz Qf ?_;subst hH hn
  (refine zG ?_;(repeat' ((with_reducible apply zBr)<;>intro h<;>refine zG ?_))<;>try exact .intro)
  ·skip
   refine Fc.pure (Xjn _) (by simp [go_sem,Qh,clo,Qa,Qn]) (by intro g;simp only [go_sem,ren,Qk]) ?_
   (refine zG ?_;(repeat' ((with_reducible apply zBr)<;>intro h<;>refine zG ?_))<;>try exact .intro)
   ·refine ⟨[],by simp,by simp,⟨i,rfl, ?_⟩,rfl⟩
    rw [decide_eq_true (by omega)]
    simp only [Qhq,List.any_eq_true,decide_eq_true_eq]
    have e:l.getD i 0=l[i]'(by omega):=by simp [List.getD,show i<l.length by omega]
    refine ⟨_,List.getElem_mem (show i<l.length by omega), ?_⟩
    rw [← e];assumption
   ·exact ⟨_,by omega,i+1,by omega,Qbc he (by assumption),rfl,(by (repeat' apply And.intro)<;>(first | rfl | omega | (congr 1;omega) | assumption | (congr 1;assumption)))⟩
  ·refine ⟨[],by simp,by simp,⟨-1,rfl, ?_⟩,rfl⟩
   rw [decide_eq_false (by omega)]
   simp only [Qhq,List.any_eq_false,decide_eq_true_eq];exact (Zq (xs:=l) (p:=fun x=>¬ (x>2147483647∨x< -2147483647))).2 fun j hj=>he j (by omega)
 ·exact ⟨0,by omega,fun j hj=>by omega,rfl,rfl,rfl,rfl,rfl,rfl,rfl⟩
theorem Qa8 (l:List Int) (hl:l.length≤17592186044416):Pu C 51 [.sl l.length (ints l),.fn (.func 49) [] []] (.bool (Qhq l)):=by
 refine zK Qf Tryz.func51 w51 Tryz.ntmps51 Tryz.results51 ?_;refine zG ?_;refine Fc.call (Qm3 l hl) (by simp [Qh,clo,Qa]) ?_
 rintro v H' ⟨⟨i,rfl,h3⟩,rfl⟩;simp only [ren,Qbf,List.map_nil,List.append_nil];refine zG ?_
 (refine Qo (by intro g;simp only [go_sem,ren,Qk]) ?_)
 rw [h3]
theorem Xd7 (tur:∀ l:List Int,l.length≤17592186044416→Pu C 174 [.sl l.length (ints l)] (.bool (Zn l&&decide (l.length≤4)))) (o:Int) (ho:1≤o∧o≤20) (l:List Int) (hl:l.length≤17592186044416) (ha:Att l) :
  ∃ g ys,(Ji o).may=.fn (.func g) [] ys∧Qh ys=true∧Pu C g (.sl l.length (ints l)::ys) (.bool (Yu o l)):=by
 have hcs:o=6∨o=9∨o=11∨o=12∨o=13∨o=14∨o=15∨o=16∨o=17∨o=20∨(o=1∨o=2∨o=3∨o=4∨o=5∨o=7∨o=8∨o=10∨o=18∨o=19):=by omega
 rcases hcs with rfl | rfl | rfl | rfl | rfl | rfl | rfl | rfl | rfl | rfl | hcs
 ·exact ⟨_,_,rfl,rfl,Qqz l 16⟩
 ·exact ⟨_,_,rfl,rfl,Qr7 l ha⟩
 ·exact ⟨_,_,rfl,rfl,tur l hl⟩
 ·exact ⟨_,_,rfl,rfl,Qrc l hl⟩
 ·exact ⟨_,_,rfl,rfl,Qrc l hl⟩
 ·exact ⟨_,_,rfl,rfl,Qme l hl⟩
 ·exact ⟨_,_,rfl,rfl,Qmh l _ true hl fun a b=>by have:=Xj5 a b;simpa using this⟩
 ·exact ⟨_,_,rfl,rfl,Qmh l _ false hl fun a b=>by have:=Xg0 a b;simpa using this⟩
 ·exact ⟨_,_,rfl,rfl,Qqz l 3⟩
 ·exact ⟨_,_,rfl,rfl,Qme l hl⟩
 ·rcases hcs with rfl | rfl | rfl | rfl | rfl | rfl | rfl | rfl | rfl | rfl<;>exact ⟨_,_,rfl,rfl,Xmv l⟩
end Go.Proofs.YtipmmjebfpbkmaaGreat
end
section
namespace Go.Proofs.YtipmmjebfpbkmaaGreat
open Go.Bv
theorem Qj1 (o:Int) (ho:1≤o∧o≤20):(∀ v,1≤v→v≤3→(inP o v=true↔(Ji o).first≤v∧v≤(Ji o).last)∧(Qch v o=true↔v≤(Ji o).none))∧(Ji o).least=least o∧(Ji o).most=most o:=by
 have hcs:o=1∨o=2∨o=3∨o=4∨o=5∨o=6∨o=7∨o=8∨o=9∨o=10∨o=11∨o=12∨o=13∨o=14∨o=15∨o=16∨o=17∨o=18∨o=19∨o=20:=by omega
 rcases hcs with rfl | rfl | rfl | rfl | rfl | rfl | rfl | rfl | rfl | rfl | rfl | rfl | rfl | rfl | rfl | rfl | rfl | rfl | rfl | rfl
 all_goals
  refine ⟨fun v h1 h2=>?_,rfl,rfl⟩
  rcases (by omega:v=1∨v=2∨v=3) with rfl | rfl | rfl
  all_goals exact ⟨by decide,by decide⟩
theorem Xaf (tur:∀ l:List Int,l.length≤17592186044416→Pu C 174 [.sl l.length (ints l)] (.bool (Zn l&&decide (l.length≤4)))) (v:Int) (n:Nd) (ha:n.args.length≤17592186044416) (hl:n.attrs.length≤17592186044416):Pu C 20 [.int .i64 v,.agg (ndC n)] (.int .i64 (Yy v n)):=by
 have hs:=Qhd n.op
 have hm:=Qi7 n.op
 refine zK Qf Tryz.func20 w20 Tryz.ntmps20 Tryz.results20 ?_;refine zG ?_;refine Fc.pure (Qu5 n.op) rfl (fun g=>Qy g _ (by simp only [ofV,clo,Qh,Qhx,Bool.and_self])) ?_
 rw [ofV]
 (refine zH2 Jf hs ?_;(repeat' ((with_reducible apply zBr)<;>intro h<;>refine zH2 Jf hs ?_))<;>try exact .intro)
 ·skip
  (refine Qo (by intro g;simp only [go_sem,ren,Qk]) ?_)
  rw [Yy,if_pos (by omega)]
 ·skip
  (refine Qo (by intro g;simp only [go_sem,ren,Qk]) ?_)
  rw [Yy,if_pos (by omega)]
 ·have ho:1≤n.op∧n.op≤20:=by assumption
  obtain ⟨f1,f2,f3⟩:=Qj1 n.op ho;obtain ⟨f4,f5⟩:=f1 v (by omega) (by omega)
  have hc:Yy v n=if inP n.op v=false then 9 else if (n.args.length:Int)<least n.op∨(n.args.length:Int)>most n.op then 10 else if n.attrs.length=0∧Qch v n.op=true then 0 else if Ya n.op n.attrs=true then 0 else 11:=by rw [Yy,if_neg (by omega)]
  refine Fc.pure (Xnb (Ji n.op) v) (by simp only [Qh,clo,hm,Bool.and_self]) (fun g=>rfl) ?_
  have hin:¬ ((Ji n.op).first≤v∧v≤(Ji n.op).last)→inP n.op v=false:=fun h=>by
   cases hx:inP n.op v with
   | false=>rfl
   | true=>exact absurd (f4.1 hx) h
  by_cases hf:Qhq n.attrs=true
  ·skip
   (refine zH2 Jf hs ?_;(repeat' ((with_reducible apply zBr)<;>intro h<;>refine zH2 Jf hs ?_))<;>try exact .intro)
   ·skip
    (refine Qo (by intro g;simp only [go_sem,ren,Qk]) ?_)
    grind
   ·skip
    (refine Qo (by intro g;simp only [go_sem,ren,Qk]) ?_)
    grind
   ·skip
    (refine Qo (by intro g;simp only [go_sem,ren,Qk]) ?_)
    grind
   ·skip
    refine Fc.pure (Qa8 _ hl) (by simp [go_sem,Qh,clo,Qa,Qn]) (by intro g;simp only [go_sem,ren,Qk]) ?_
    rw [hf];refine zH2 Jf hs ?_
    (refine Qo (by intro g;simp only [go_sem,ren,Qk]) ?_)
    grind [Ya]
   ·skip
    refine Fc.pure (Qa8 _ hl) (by simp [go_sem,Qh,clo,Qa,Qn]) (by intro g;simp only [go_sem,ren,Qk]) ?_
    rw [hf];refine zH2 Jf hs ?_
    (refine Qo (by intro g;simp only [go_sem,ren,Qk]) ?_)
    grind [Ya]
   ·skip
    (refine Qo (by intro g;simp only [go_sem,ren,Qk]) ?_)
    rw [hc,if_pos (hin (by assumption))]
  ·have hff:Qhq n.attrs=false:=by simpa using hf
   obtain ⟨g,ys,he,hy,hsp⟩:=Xd7 tur n.op ho n.attrs hl fun i hi=>Qep hff hi
   have hat:Ya n.op n.attrs=Yu n.op n.attrs:=by simp [Ya,hff]
   (refine zH2 Jf hs ?_;(repeat' ((with_reducible apply zBr)<;>intro h<;>refine zH2 Jf hs ?_))<;>try exact .intro)
   ·skip
    (refine Qo (by intro g;simp only [go_sem,ren,Qk]) ?_)
    grind
   ·skip
    (refine Qo (by intro g;simp only [go_sem,ren,Qk]) ?_)
    grind
   ·skip
    (refine Qo (by intro g;simp only [go_sem,ren,Qk]) ?_)
    grind
   ·skip
    refine Fc.pure (Qa8 _ hl) (by simp [go_sem,Qh,clo,Qa,Qn]) (by intro g;simp only [go_sem,ren,Qk]) ?_
    rw [hff];refine zH3 Jf hs he ?_;refine Fc.pure hsp (by simp only [Qh,clo,hy,Qa,Bool.and_self]) (fun g=>rfl) ?_
    (refine zG ?_;(repeat' ((with_reducible apply zBr)<;>intro h<;>refine zG ?_))<;>try exact .intro)
    all_goals (refine Qo (by intro g;simp only [go_sem,ren,Qk]) ?_)
    all_goals grind
   ·skip
    refine Fc.pure (Qa8 _ hl) (by simp [go_sem,Qh,clo,Qa,Qn]) (by intro g;simp only [go_sem,ren,Qk]) ?_
    rw [hff];refine zH3 Jf hs he ?_;refine Fc.pure hsp (by simp only [Qh,clo,hy,Qa,Bool.and_self]) (fun g=>rfl) ?_
    (refine zG ?_;(repeat' ((with_reducible apply zBr)<;>intro h<;>refine zG ?_))<;>try exact .intro)
    all_goals (refine Qo (by intro g;simp only [go_sem,ren,Qk]) ?_)
    all_goals grind
   ·skip
    (refine Qo (by intro g;simp only [go_sem,ren,Qk]) ?_)
    rw [hc,if_pos (hin (by assumption))]
 ·skip
  (refine Qo (by intro g;simp only [go_sem,ren,Qk]) ?_)
  have:inP n.op v=false:=by
   cases hx:inP n.op v with
   | false=>rfl
   | true=>exact absurd (Qoo hx) (by assumption)
  rw [Yy,if_neg (by omega),if_pos this]
theorem Qys (a:Int):Pu C 230 [.int .i64 a] (.bool false):=by
 refine zK Qf Tryz.func230 w230 Tryz.ntmps230 Tryz.results230 ?_;refine zG ?_
 (refine Qo (by intro g;simp only [go_sem,ren,Qk]) ?_)
 simp
theorem Xfo (a b:Int):Pu C 216 [.int .i64 a,.int .i64 b] (.bool (decide (a<b))):=by
 refine zK Qf Tryz.func216 w216 Tryz.ntmps216 Tryz.results216 ?_;refine zG ?_;refine Fc.pure (Qys a) (by simp [go_sem,Qh,clo,Qa,Qn]) (by intro g;simp only [go_sem,ren,Qk]) ?_
 refine zG ?_
 (refine Qo (by intro g;simp only [go_sem,ren,Qk]) ?_)
 (simp only [V.tup.injEq,List.cons.injEq,V.int.injEq,V.bool.injEq,true_and,and_true];(try rw [Bool.eq_iff_iff]);(try simp only [decide_eq_true_eq,decide_eq_false_iff_not,Decidable.not_not,true_and,and_true,Bool.not_eq_true,Bool.not_eq_eq_eq_not,Bool.not_true,Bool.and_eq_true,Bool.or_eq_true,beq_iff_eq,bne_iff_ne,ne_eq,Bool.false_eq_true,false_iff,true_iff,iff_false,iff_true]);(try omega))
def swp (l:List Int) (j:Nat):List Int:=(l.set j (l.getD (j - 1) 0)).set (j - 1) (l.getD j 0)
theorem Xf9 (l:List Int) {j:Nat} (h0:0<j) (h:j<l.length):(swp l j).Perm l:=by
 rw [List.perm_iff_count];intro a
 have h1:j - 1<l.length:=by omega
 have e1:l.getD j 0=l[j]:=by simp [List.getD,h]
 have e2:l.getD (j - 1) 0=l[j - 1]:=by simp [List.getD,h1]
 have e3:(l.set j l[j - 1])[j - 1]'(by simpa using h1)=l[j - 1]:=by rw [List.getElem_set_ne (by omega)]
 rw [swp,e2,e1,List.count_set (by simpa using h1),List.count_set h,e3]
 have c1:(if (l[j]==a)=true then 1 else 0)≤List.count a l:=by
  split
  ·rename_i hh;exact List.one_le_count_iff.2 (by rw [← eq_of_beq hh];exact List.getElem_mem _)
  ·omega
 have c2:(if (l[j - 1]==a)=true then 1 else 0)≤List.count a l:=by
  split
  ·rename_i hh;exact List.one_le_count_iff.2 (by rw [← eq_of_beq hh];exact List.getElem_mem _)
  ·omega
 omega
theorem Qjw (l:List Int) {j:Nat} (h0:0<j) (h:j<l.length) (q:Nat):(swp l j).getD q 0=if q=j - 1 then l.getD j 0 else if q=j then l.getD (j - 1) 0 else l.getD q 0:=by
 unfold swp;split
 ·subst q;rw [Go.Bv.getD_set_eq _ (by simp;omega)]
 ·rename_i hq;rw [Go.Bv.getD_set_ne _ hq];split
  ·subst q;rw [Go.Bv.getD_set_eq _ h]
  ·rename_i hq2;rw [Go.Bv.getD_set_ne _ hq2]
structure Ins (xs zs:List Int) (i j:Nat):Prop where
 perm:zs.Perm xs
 others:∀ p q,p<q→q≤i→p≠j→q≠j→zs.getD p 0≤zs.getD q 0
 above:∀ q,j<q→q≤i→zs.getD j 0≤zs.getD q 0
theorem Ins.len {xs zs:List Int} {i j:Nat} (h:Ins xs zs i j):zs.length=xs.length:=h.perm.length_eq
theorem Ins.step {xs zs:List Int} {i j:Nat} (h:Ins xs zs i j) (h0:0<j) (hj:j≤i) (hi:i<zs.length) (hlt:zs.getD j 0<zs.getD (j - 1) 0):Ins xs (swp zs j) i (j - 1):=by
 refine ⟨(Xf9 zs h0 (by omega)).trans h.perm,fun p q hpq hq hp1 hq1=>?_,fun q hq hqi=>?_⟩
 ·rw [Qjw _ h0 (by omega),Qjw _ h0 (by omega),if_neg hp1,if_neg hq1]
  split
  ·subst p;rw [if_neg (by omega)]
   exact h.others (j - 1) q (by omega) hq (by omega) (by omega)
  ·split
   ·subst q;exact h.others p (j - 1) (by omega) (by omega) (by omega) (by omega)
   ·exact h.others p q hpq hq (by omega) (by omega)
 ·rw [Qjw _ h0 (by omega),Qjw _ h0 (by omega),if_pos rfl,if_neg (by omega)]
  split
  ·omega
  ·exact h.above q (by omega) hqi
theorem Ins.done {xs zs:List Int} {i j:Nat} (h:Ins xs zs i j) (hj:j≤i) (hx:j=0∨¬ zs.getD j 0<zs.getD (j - 1) 0):∀ p q,p<q→q≤i→zs.getD p 0≤zs.getD q 0:=by
 intro p q hpq hq;by_cases hp:p=j
 ·subst hp;exact h.above q hpq hq
 ·by_cases hqj:q=j
  ·subst hqj;rcases hx with hx | hx
   ·omega
   ·by_cases hp1:p=q - 1
    ·subst hp1;omega
    ·have:=h.others p (q - 1) (by omega) (by omega) (by omega) (by omega)
     omega
  ·exact h.others p q hpq hq hp hqj
theorem Quk {H0:Qb} {r:Nat} {row:Row} (hr:Qc H0 r=some row):H0.set r (some row)=H0:=by
 have:=Yd hr
 obtain ⟨h1,h2⟩:=List.getElem?_eq_some_iff.1 this;rw [← h2];exact List.set_getElem_self ..
theorem Qsv (r:Nat) (H0:Qb) (xs:List Int) (hr:Qc H0 r=some ⟨3,1,ints xs⟩) (hn:xs.length≤1000000):Fc C 210 [.ref r 0 xs.length,.int .i64 0,.int .i64 xs.length] H0 (fun v H'=>∃ ys:List Int,v=.tup []∧ys.Perm xs∧(∀ p q,p<q→q<ys.length→ys.getD p 0≤ys.getD q 0)∧H'=H0.set r (some ⟨3,1,ints ys⟩)):=by
 have hset:∀ row,Qc (H0.set r (some row)) r=some row:=fun row=>Qg hr
 have hsame:=Quk hr
 refine zL Qf Tryz.func210 w210 Tryz.ntmps210 Tryz.results210 ?_;refine zG ?_;by_cases h0:xs.length=0
 ·obtain rfl:xs=[]:=List.eq_nil_of_length_eq_zero h0;refine Qgx ?_;refine Qz Qf ?_;refine zG ?_;exact ⟨[],List.Perm.refl _,(fun p q h1 h2=>by simp at h2),hsame.symm⟩
 refine Qj (fun n ts H=>∃ (i:Nat) (zs:List Int),(1≤i)∧(i≤xs.length)∧(zs.Perm xs)∧(∀ p q,p<q→q<i→zs.getD p 0≤zs.getD q 0)∧(n=xs.length - i)∧(H=H0.set r (some ⟨3,1,ints zs⟩))∧ts.length=49∧nth ts 0=.ref r 0 xs.length∧nth ts 1=.int .i64 0∧nth ts 2=.int .i64 xs.length∧nth ts 6=.int .i64 i) ?_ (n:=xs.length - 1) ?_
 ·skip
  rintro n ts H ⟨i,zs,hi1,hi,hp,hs,hn,hH,hL,hs0,hs1,hs2,hs6⟩;refine Xc [(0,.ref r 0 xs.length),(1,.int .i64 0),(2,.int .i64 xs.length),(6,.int .i64 i)] hL (by simp only [zFm,hs0,hs1,hs2,hs6,true_and];exact zNm) ?_
  clear hL hs0 hs1 hs2 hs6 ts
  refine Qz Qf ?_;subst hn hH
  have hlz:=hp.length_eq
  (refine zG ?_;(repeat' ((with_reducible apply zBr)<;>intro h<;>refine zG ?_))<;>try exact .intro)
  ·skip
   refine Qj (fun n ts H=>∃ (j:Nat) (ws:List Int),(j≤i)∧(Ins xs ws i j)∧(n=j)∧(H=H0.set r (some ⟨3,1,ints ws⟩))∧ts.length=49∧nth ts 0=.ref r 0 xs.length∧nth ts 1=.int .i64 0∧nth ts 2=.int .i64 xs.length∧nth ts 6=.int .i64 i∧nth ts 7=.int .i64 j) ?_ (n:=i) ?_
   ·skip
    rintro n ts H ⟨j,ws,hj,hI,hn,hH,hL,hs0,hs1,hs2,hs6,hs7⟩;refine Xc [(0,.ref r 0 xs.length),(1,.int .i64 0),(2,.int .i64 xs.length),(6,.int .i64 i),(7,.int .i64 j)] hL (by simp only [zFm,hs0,hs1,hs2,hs6,hs7,true_and];exact zNm) ?_
    clear hL hs0 hs1 hs2 hs6 hs7 ts
    refine Qz Qf ?_;subst hn hH
    have hlw:=hI.len
    (refine zH1 hset ?_;(repeat' ((with_reducible apply zBr)<;>intro h<;>refine zH1 hset ?_))<;>try exact .intro)
    ·skip
     refine Pc.pure (Xfo _ _) (by simp [go_sem,Qh,clo,Qa,Qn]) (by intro g;simp only [go_sem,ren,Qk]) ?_
     (refine zH1 hset ?_;(repeat' ((with_reducible apply zBr)<;>intro h<;>refine zH1 hset ?_))<;>try exact .intro)
     ·have:((n:Int) - 1)=((n - 1:Nat):Int):=by omega
      exact ⟨n - 1,by omega,n - 1,swp ws n,by omega,hI.step (by omega) hj (by omega) (by assumption),rfl,rfl,by rw [this]⟩
     ·have hd:=hI.done hj (.inr (by assumption))
      exact ⟨xs.length - (i+1),by omega,i+1,ws,by omega,by omega,hI.perm,fun p q h1 h2=>hd p q h1 (by omega),rfl,rfl,by simp⟩
    ·have hd:=hI.done hj (.inl (by omega))
     exact ⟨xs.length - (i+1),by omega,i+1,ws,by omega,by omega,hI.perm,fun p q h1 h2=>hd p q h1 (by omega),rfl,rfl,by simp⟩
   ·exact ⟨i,zs,by omega,⟨hp,fun p q h1 h2 h3 h4=>hs p q h1 (by omega),fun q h1 h2=>by omega⟩,rfl,rfl,rfl,rfl,rfl,rfl,rfl,rfl⟩
  ·exact ⟨zs,hp,fun p q h1 h2=>hs p q h1 (by omega),rfl⟩
 ·exact ⟨1,xs,by omega,by omega,List.Perm.refl _,fun p q h1 h2=>by omega,rfl,hsame.symm,rfl,rfl,rfl,rfl,rfl⟩
@[go_sem] theorem Xe3 {d:Ty} {k0:IntKind} {n:Int} {K:V→Prop}:Qet d (.int k0 n) K=(match d.ik with | some k=>K (.int k (k.wrap n)) | none=>False):=by unfold Qet;cases d.ik<;>rfl
theorem Qyy {ty:TypeId→Ty} {y:Ty} {s:ByteArray} {k:IntKind} {i:Nat} {K:V→Prop} (h:y.arr=none) (h2:y.str=true) (hi:i<s.size) {u:V} (hu:.int .u8 ((s[i]?.getD 0).toNat:Int)=u) (hK:K u):Qaj ty y (.str s) (.int k (i:Int)) K:=by
 subst hu;simp only [Qaj,h];exact ⟨h2,by omega,by simpa using hi,by simpa using hK⟩
@[go_sem] theorem Xua {n:Int} (h:0≤n∧n≤255):IntKind.wrap .u8 n=n:=by
 have e:IntKind.wrap .u8 n=n%256:=rfl
 omega
@[go_sem] theorem Xs8 {n:Int} (h:0≤n∧n≤18446744073709551615):IntKind.wrap .u64 n=n:=by
 have e:IntKind.wrap .u64 n=n%18446744073709551616:=rfl
 omega
theorem Xha (lim:Int) (r:Nat) (H0:Qb) (xs:List Int) (hr:Qc H0 r=some ⟨3,1,ints xs⟩) (hn:xs.length≤12):Fc C 194 [.ref r 0 xs.length,.int .i64 0,.int .i64 xs.length,.int .i64 lim] H0 (fun v H'=>∃ ys:List Int,v=.tup []∧ys.Perm xs∧(∀ p q,p<q→q<ys.length→ys.getD p 0≤ys.getD q 0)∧H'=H0.set r (some ⟨3,1,ints ys⟩)):=by
 refine zL Qf Tryz.func194 w194 Tryz.ntmps194 Tryz.results194 ?_;refine zG ?_;refine Qgx ?_;refine Qz Qf ?_;refine zG ?_;refine Fc.mono (Qsv r H0 xs hr (by omega)) ?_
 rintro v H' ⟨ys,rfl,hp,hs,rfl⟩;refine zG ?_;exact ⟨ys,hp,hs,rfl⟩
theorem Xaa (a:Nat) (h:a≤12):Pu C 219 [.int .u64 a] (.int .i64 (Nat.log2 (2*a))):=by
 refine zK Qf Tryz.func219 w219 Tryz.ntmps219 Tryz.results219 ?_;refine zG ?_
 have hx:a=0∨a=1∨a=2∨a=3∨a=4∨a=5∨a=6∨a=7∨a=8∨a=9∨a=10∨a=11∨a=12:=by omega
 rcases hx with rfl | rfl | rfl | rfl | rfl | rfl | rfl | rfl | rfl | rfl | rfl | rfl | rfl
 all_goals refine ⟨by decide, ?_⟩
 all_goals refine zG ?_
 all_goals (refine Qo (by intro g;simp only [go_sem,ren,Qk]) ?_)
 all_goals rfl
theorem Qw3 (a:Nat) (h:a≤12):Pu C 195 [.int .u64 a] (.int .i64 (Nat.log2 (2*a))):=by
 refine zK Qf Tryz.func195 w195 Tryz.ntmps195 Tryz.results195 ?_;refine zG ?_;refine Fc.pure (Xaa a h) (by simp [go_sem,Qh,clo,Qa,Qn]) (by intro g;simp only [go_sem,ren,Qk]) ?_
 refine zG ?_
 (refine Qo (by intro g;simp only [go_sem,ren,Qk]) ?_)
 rfl
theorem Xfm (r:Nat) (H0:Qb) (xs:List Int) (hr:Qc H0 r=some ⟨3,1,ints xs⟩) (hn:xs.length≤12):Fc C 168 [.ref r 0 xs.length] H0 (fun v H'=>∃ ys:List Int,v=.tup []∧ys.Perm xs∧(∀ p q,p<q→q<ys.length→ys.getD p 0≤ys.getD q 0)∧H'=H0.set r (some ⟨3,1,ints ys⟩)):=by
 refine zL Qf Tryz.func168 w168 Tryz.ntmps168 Tryz.results168 ?_;refine zG ?_;refine Fc.pure (Qw3 _ hn) (by simp [go_sem,Qh,clo,Qa,Qn]) (by intro g;simp only [go_sem,ren,Qk]) ?_
 refine zG ?_;refine Fc.mono (Xha _ r H0 xs hr hn) ?_;rintro v H' ⟨ys,rfl,hp,hs,rfl⟩;refine zG ?_;exact ⟨ys,hp,hs,rfl⟩
end Go.Proofs.YtipmmjebfpbkmaaGreat
end
