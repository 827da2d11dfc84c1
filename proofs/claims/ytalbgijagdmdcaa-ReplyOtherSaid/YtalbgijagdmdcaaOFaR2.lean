import Derived.Test.YtalbgijagdmdcaaRows
import Derived.WalkKit
import Derived.Test.YtalbgijagdmdcaaOAbs4
set_option linter.all false
/- What is known of the types of the program. -/
open Go.Proofs Go.Abs
namespace Go.FaR2
theorem y0 : tsz Try.prog 2 = some 1 := by kernel_rfl
theorem y1 : tagg Try.prog 2 = some false := by kernel_rfl
theorem y2 : tzc Try.prog 2 = some [M.d (D.v (Value.int IntKind.i64 0))] := by kernel_rfl
theorem y3 : tz Try.prog 2 = some [M.d (D.v (Value.int IntKind.i64 0))] := by kernel_rfl
theorem y4 : tint Try.prog 2 = some IntKind.i64 := by kernel_rfl
theorem y5 : telem Try.prog 2 = none := by kernel_rfl
theorem y6 : isStr Try.prog 2 = false := by kernel_rfl
theorem y7 : isU8 Try.prog 2 = false := by kernel_rfl
theorem y8 : tbytes Try.prog 2 = false := by kernel_rfl
theorem y9 : tsl Try.prog 2 = none := by kernel_rfl
theorem y10 : tsz Try.prog 3 = some 1 := by kernel_rfl
theorem y11 : tagg Try.prog 3 = some false := by kernel_rfl
theorem y12 : tzc Try.prog 3 = some [M.d (D.v (Value.int IntKind.i64 0))] := by kernel_rfl
theorem y13 : tz Try.prog 3 = some [M.d (D.v (Value.int IntKind.i64 0))] := by kernel_rfl
theorem y14 : tint Try.prog 3 = some IntKind.i64 := by kernel_rfl
theorem y15 : telem Try.prog 3 = none := by kernel_rfl
theorem y16 : isStr Try.prog 3 = false := by kernel_rfl
theorem y17 : isU8 Try.prog 3 = false := by kernel_rfl
theorem y18 : tbytes Try.prog 3 = false := by kernel_rfl
theorem y19 : tsl Try.prog 3 = none := by kernel_rfl
theorem y20 : tsz Try.prog 4 = some 1 := by kernel_rfl
theorem y21 : tagg Try.prog 4 = some false := by kernel_rfl
theorem y22 : tzc Try.prog 4 = some [M.d (D.v (Value.bool false))] := by kernel_rfl
theorem y23 : tz Try.prog 4 = some [M.d (D.v (Value.bool false))] := by kernel_rfl
theorem y24 : tsl Try.prog 4 = none := by kernel_rfl
theorem y25 : tsz Try.prog 5 = some 1 := by kernel_rfl
theorem y26 : tagg Try.prog 5 = some false := by kernel_rfl
theorem y27 : tzc Try.prog 5 = some [M.d (D.v (Value.int IntKind.u8 0))] := by kernel_rfl
theorem y28 : tz Try.prog 5 = some [M.d (D.v (Value.int IntKind.u8 0))] := by kernel_rfl
theorem y29 : tint Try.prog 5 = some IntKind.u8 := by kernel_rfl
theorem y30 : telem Try.prog 5 = none := by kernel_rfl
theorem y31 : isStr Try.prog 5 = false := by kernel_rfl
theorem y32 : isU8 Try.prog 5 = true := by kernel_rfl
theorem y33 : tbytes Try.prog 5 = false := by kernel_rfl
theorem y34 : tsl Try.prog 5 = none := by kernel_rfl
theorem y35 : tsz Try.prog 9 = some 1 := by kernel_rfl
theorem y36 : tagg Try.prog 9 = some false := by kernel_rfl
theorem y37 : tzc Try.prog 9 = some [strM []] := by kernel_rfl
theorem y38 : tz Try.prog 9 = some [strM []] := by kernel_rfl
theorem y39 : telem Try.prog 9 = none := by kernel_rfl
theorem y40 : isStr Try.prog 9 = true := by kernel_rfl
theorem y41 : isU8 Try.prog 9 = false := by kernel_rfl
theorem y42 : tbytes Try.prog 9 = false := by kernel_rfl
theorem y43 : tsl Try.prog 9 = none := by kernel_rfl
theorem y44 : tsz Try.prog 22 = some 1 := by kernel_rfl
theorem y45 : tagg Try.prog 22 = some false := by kernel_rfl
theorem y46 : tzc Try.prog 22 = some [M.d (D.v (Value.slice none 0 0))] := by kernel_rfl
theorem y47 : tz Try.prog 22 = some [M.d (D.v (Value.slice none 0 0))] := by kernel_rfl
theorem y48 : telem Try.prog 22 = some 5 := by kernel_rfl
theorem y49 : tel Try.prog 22 = some (1, 1, [M.d (D.v (Value.int IntKind.u8 0))]) := by kernel_rfl
theorem y50 : isStr Try.prog 22 = false := by kernel_rfl
theorem y51 : isU8 Try.prog 22 = false := by kernel_rfl
theorem y52 : tbytes Try.prog 22 = true := by kernel_rfl
theorem y53 : tsl Try.prog 22 = some 1 := by kernel_rfl
theorem y54 : tsz Try.prog 24 = some 1 := by kernel_rfl
theorem y55 : tagg Try.prog 24 = some false := by kernel_rfl
theorem y56 : tzc Try.prog 24 = some [M.d (D.v (Value.int IntKind.i64 0))] := by kernel_rfl
theorem y57 : tz Try.prog 24 = some [M.d (D.v (Value.int IntKind.i64 0))] := by kernel_rfl
theorem y58 : tint Try.prog 24 = some IntKind.i64 := by kernel_rfl
theorem y59 : telem Try.prog 24 = none := by kernel_rfl
theorem y60 : isStr Try.prog 24 = false := by kernel_rfl
theorem y61 : isU8 Try.prog 24 = false := by kernel_rfl
theorem y62 : tbytes Try.prog 24 = false := by kernel_rfl
theorem y63 : tsl Try.prog 24 = none := by kernel_rfl
theorem y64 : tsz Try.prog 29 = some 1 := by kernel_rfl
theorem y65 : tagg Try.prog 29 = some false := by kernel_rfl
theorem y66 : tzc Try.prog 29 = some [M.d (D.v (Value.slice none 0 0))] := by kernel_rfl
theorem y67 : tz Try.prog 29 = some [M.d (D.v (Value.slice none 0 0))] := by kernel_rfl
theorem y68 : telem Try.prog 29 = some 22 := by kernel_rfl
theorem y69 : tel Try.prog 29 = some (1, 24, [M.d (D.v (Value.slice none 0 0))]) := by kernel_rfl
theorem y70 : isStr Try.prog 29 = false := by kernel_rfl
theorem y71 : isU8 Try.prog 29 = false := by kernel_rfl
theorem y72 : tbytes Try.prog 29 = false := by kernel_rfl
theorem y73 : tsl Try.prog 29 = some 1 := by kernel_rfl
theorem y74 : tsz Try.prog 37 = some 1 := by kernel_rfl
theorem y75 : tagg Try.prog 37 = some false := by kernel_rfl
theorem y76 : tzc Try.prog 37 = some [M.d (D.v (Value.slice none 0 0))] := by kernel_rfl
theorem y77 : tz Try.prog 37 = some [M.d (D.v (Value.slice none 0 0))] := by kernel_rfl
theorem y78 : telem Try.prog 37 = some 74 := by kernel_rfl
theorem y79 : tel Try.prog 37 = some (2, 40, [strM [], M.d (D.v (Value.slice none 0 0))]) := by kernel_rfl
theorem y80 : isStr Try.prog 37 = false := by kernel_rfl
theorem y81 : isU8 Try.prog 37 = false := by kernel_rfl
theorem y82 : tbytes Try.prog 37 = false := by kernel_rfl
theorem y83 : tsl Try.prog 37 = some 2 := by kernel_rfl
theorem y84 : tsz Try.prog 39 = some 2 := by kernel_rfl
theorem y85 : tagg Try.prog 39 = some true := by kernel_rfl
theorem y86 : tzc Try.prog 39 = some [M.d (D.v (Value.int IntKind.i64 0)), M.d (D.v (Value.int IntKind.i64 0))] := by kernel_rfl
theorem y87 : tz Try.prog 39 = some [M.d (D.v (Value.int IntKind.i64 0)), M.d (D.v (Value.int IntKind.i64 0))] := by kernel_rfl
theorem y88 : tpl Try.prog 39 = some (Pl.fs [(0, 1), (1, 1)]) := by kernel_rfl
theorem y89 : tsl Try.prog 39 = none := by kernel_rfl
theorem y90 : cty Try.prog 9 39 = [none, none] := by kernel_rfl
theorem y91 : tfldt Try.prog 39 0 = some (0, 3) := by kernel_rfl
theorem y92 : tfld Try.prog 39 0 = some 0 := by kernel_rfl
theorem y93 : tfldt Try.prog 39 1 = some (1, 3) := by kernel_rfl
theorem y94 : tfld Try.prog 39 1 = some 1 := by kernel_rfl
theorem y95 : tsz Try.prog 40 = some 2 := by kernel_rfl
theorem y96 : tagg Try.prog 40 = some true := by kernel_rfl
theorem y97 : tzc Try.prog 40 = some [M.d (D.v (Value.int IntKind.i64 0)), M.d (D.v (Value.int IntKind.i64 0))] := by kernel_rfl
theorem y98 : tz Try.prog 40 = some [M.d (D.v (Value.int IntKind.i64 0)), M.d (D.v (Value.int IntKind.i64 0))] := by kernel_rfl
theorem y99 : tpl Try.prog 40 = some (Pl.fs [(0, 1), (1, 1)]) := by kernel_rfl
theorem y100 : tsl Try.prog 40 = none := by kernel_rfl
theorem y101 : cty Try.prog 9 40 = [none, none] := by kernel_rfl
theorem y102 : tfldt Try.prog 40 0 = some (0, 3) := by kernel_rfl
theorem y103 : tfld Try.prog 40 0 = some 0 := by kernel_rfl
theorem y104 : tfldt Try.prog 40 1 = some (1, 3) := by kernel_rfl
theorem y105 : tfld Try.prog 40 1 = some 1 := by kernel_rfl
theorem y106 : tsz Try.prog 41 = some 1 := by kernel_rfl
theorem y107 : tagg Try.prog 41 = some false := by kernel_rfl
theorem y108 : tzc Try.prog 41 = some [M.d (D.v (Value.slice none 0 0))] := by kernel_rfl
theorem y109 : tz Try.prog 41 = some [M.d (D.v (Value.slice none 0 0))] := by kernel_rfl
theorem y110 : telem Try.prog 41 = some 49 := by kernel_rfl
theorem y111 : tel Try.prog 41 = some (2, 16, [M.d (D.v (Value.int IntKind.i64 0)), M.d (D.v (Value.int IntKind.i64 0))]) := by kernel_rfl
theorem y112 : isStr Try.prog 41 = false := by kernel_rfl
theorem y113 : isU8 Try.prog 41 = false := by kernel_rfl
theorem y114 : tbytes Try.prog 41 = false := by kernel_rfl
theorem y115 : tsl Try.prog 41 = some 2 := by kernel_rfl
theorem y116 : tsz Try.prog 42 = some 3 := by kernel_rfl
theorem y117 : tagg Try.prog 42 = some true := by kernel_rfl
theorem y118 : tzc Try.prog 42 = some [M.d (D.v (Value.bool false)), M.d (D.v (Value.slice none 0 0)), M.d (D.v (Value.int IntKind.i64 0))] := by kernel_rfl
theorem y119 : tz Try.prog 42 = some [M.d (D.v (Value.bool false)), M.d (D.v (Value.slice none 0 0)), M.d (D.v (Value.int IntKind.i64 0))] := by kernel_rfl
theorem y120 : tpl Try.prog 42 = some (Pl.fs [(0, 1), (1, 1), (2, 1)]) := by kernel_rfl
theorem y121 : tsl Try.prog 42 = none := by kernel_rfl
theorem y122 : cty Try.prog 9 42 = [none, some 2, none] := by kernel_rfl
theorem y123 : tfldt Try.prog 42 0 = some (0, 4) := by kernel_rfl
theorem y124 : tfld Try.prog 42 0 = some 0 := by kernel_rfl
theorem y125 : tfldt Try.prog 42 1 = some (1, 41) := by kernel_rfl
theorem y126 : tfld Try.prog 42 1 = some 1 := by kernel_rfl
theorem y127 : tfldt Try.prog 42 2 = some (2, 3) := by kernel_rfl
theorem y128 : tfld Try.prog 42 2 = some 2 := by kernel_rfl
theorem y129 : tsz Try.prog 43 = some 3 := by kernel_rfl
theorem y130 : tagg Try.prog 43 = some true := by kernel_rfl
theorem y131 : tzc Try.prog 43 = some [M.d (D.v (Value.bool false)), M.d (D.v (Value.slice none 0 0)), M.d (D.v (Value.int IntKind.i64 0))] := by kernel_rfl
theorem y132 : tz Try.prog 43 = some [M.d (D.v (Value.bool false)), M.d (D.v (Value.slice none 0 0)), M.d (D.v (Value.int IntKind.i64 0))] := by kernel_rfl
theorem y133 : tpl Try.prog 43 = some (Pl.fs [(0, 1), (1, 1), (2, 1)]) := by kernel_rfl
theorem y134 : tsl Try.prog 43 = none := by kernel_rfl
theorem y135 : cty Try.prog 9 43 = [none, some 2, none] := by kernel_rfl
theorem y136 : tfldt Try.prog 43 0 = some (0, 4) := by kernel_rfl
theorem y137 : tfld Try.prog 43 0 = some 0 := by kernel_rfl
theorem y138 : tfldt Try.prog 43 1 = some (1, 41) := by kernel_rfl
theorem y139 : tfld Try.prog 43 1 = some 1 := by kernel_rfl
theorem y140 : tfldt Try.prog 43 2 = some (2, 3) := by kernel_rfl
theorem y141 : tfld Try.prog 43 2 = some 2 := by kernel_rfl
theorem y142 : tsz Try.prog 44 = some 12 := by kernel_rfl
theorem y143 : tagg Try.prog 44 = some true := by kernel_rfl
theorem y144 : tzc Try.prog 44 = some [M.d (D.v (Value.bool false)), M.d (D.v (Value.slice none 0 0)), M.d (D.v (Value.int IntKind.i64 0)), M.d (D.v (Value.bool false)), M.d (D.v (Value.slice none 0 0)), M.d (D.v (Value.int IntKind.i64 0)), M.d (D.v (Value.bool false)), M.d (D.v (Value.slice none 0 0)), M.d (D.v (Value.int IntKind.i64 0)), M.d (D.v (Value.bool false)), M.d (D.v (Value.slice none 0 0)), M.d (D.v (Value.int IntKind.i64 0))] := by kernel_rfl
theorem y145 : tz Try.prog 44 = some [M.d (D.v (Value.bool false)), M.d (D.v (Value.slice none 0 0)), M.d (D.v (Value.int IntKind.i64 0)), M.d (D.v (Value.bool false)), M.d (D.v (Value.slice none 0 0)), M.d (D.v (Value.int IntKind.i64 0)), M.d (D.v (Value.bool false)), M.d (D.v (Value.slice none 0 0)), M.d (D.v (Value.int IntKind.i64 0)), M.d (D.v (Value.bool false)), M.d (D.v (Value.slice none 0 0)), M.d (D.v (Value.int IntKind.i64 0))] := by kernel_rfl
theorem y146 : tpl Try.prog 44 = some (Pl.es 3) := by kernel_rfl
theorem y147 : tarr Try.prog 44 = some (4, 43) := by kernel_rfl
theorem y148 : tsl Try.prog 44 = none := by kernel_rfl
theorem y149 : cty Try.prog 9 44 = [none, some 2, none, none, some 2, none, none, some 2, none, none, some 2, none] := by kernel_rfl
theorem y150 : tsz Try.prog 45 = some 1 := by kernel_rfl
theorem y151 : tagg Try.prog 45 = some false := by kernel_rfl
theorem y152 : tzc Try.prog 45 = some [M.d (D.v (Value.slice none 0 0))] := by kernel_rfl
theorem y153 : tz Try.prog 45 = some [M.d (D.v (Value.slice none 0 0))] := by kernel_rfl
theorem y154 : telem Try.prog 45 = some 68 := by kernel_rfl
theorem y155 : tel Try.prog 45 = some (2, 32, [M.d (D.v (Value.int IntKind.i64 0)), M.d (D.v (Value.slice none 0 0))]) := by kernel_rfl
theorem y156 : isStr Try.prog 45 = false := by kernel_rfl
theorem y157 : isU8 Try.prog 45 = false := by kernel_rfl
theorem y158 : tbytes Try.prog 45 = false := by kernel_rfl
theorem y159 : tsl Try.prog 45 = some 2 := by kernel_rfl
theorem y160 : tsz Try.prog 46 = some 19 := by kernel_rfl
theorem y161 : tagg Try.prog 46 = some true := by kernel_rfl
theorem y162 : tzc Try.prog 46 = some [M.d (D.v (Value.int IntKind.i64 0)), M.d (D.v (Value.int IntKind.i64 0)), M.d (D.v (Value.int IntKind.i64 0)), M.d (D.v (Value.bool false)), M.d (D.v (Value.slice none 0 0)), M.d (D.v (Value.int IntKind.i64 0)), M.d (D.v (Value.bool false)), M.d (D.v (Value.slice none 0 0)), M.d (D.v (Value.int IntKind.i64 0)), M.d (D.v (Value.bool false)), M.d (D.v (Value.slice none 0 0)), M.d (D.v (Value.int IntKind.i64 0)), M.d (D.v (Value.bool false)), M.d (D.v (Value.slice none 0 0)), M.d (D.v (Value.int IntKind.i64 0)), M.d (D.v (Value.int IntKind.i64 0)), M.d (D.v (Value.slice none 0 0)), M.d (D.v (Value.bool false)), M.d (D.v (Value.slice none 0 0))] := by kernel_rfl
theorem y163 : tz Try.prog 46 = some [M.d (D.v (Value.int IntKind.i64 0)), M.d (D.v (Value.int IntKind.i64 0)), M.d (D.v (Value.int IntKind.i64 0)), M.d (D.v (Value.bool false)), M.d (D.v (Value.slice none 0 0)), M.d (D.v (Value.int IntKind.i64 0)), M.d (D.v (Value.bool false)), M.d (D.v (Value.slice none 0 0)), M.d (D.v (Value.int IntKind.i64 0)), M.d (D.v (Value.bool false)), M.d (D.v (Value.slice none 0 0)), M.d (D.v (Value.int IntKind.i64 0)), M.d (D.v (Value.bool false)), M.d (D.v (Value.slice none 0 0)), M.d (D.v (Value.int IntKind.i64 0)), M.d (D.v (Value.int IntKind.i64 0)), M.d (D.v (Value.slice none 0 0)), M.d (D.v (Value.bool false)), M.d (D.v (Value.slice none 0 0))] := by kernel_rfl
theorem y164 : tpl Try.prog 46 = some (Pl.fs [(0, 2), (2, 1), (3, 12), (15, 1), (16, 1), (17, 1), (18, 1)]) := by kernel_rfl
theorem y165 : tsl Try.prog 46 = none := by kernel_rfl
theorem y166 : cty Try.prog 9 46 = [none, none, none, none, some 2, none, none, some 2, none, none, some 2, none, none, some 2, none, none, some 2, none, some 1] := by kernel_rfl
theorem y167 : tfldt Try.prog 46 0 = some (0, 40) := by kernel_rfl
theorem y168 : tfld Try.prog 46 0 = some 0 := by kernel_rfl
theorem y169 : tfldt Try.prog 46 1 = some (2, 3) := by kernel_rfl
theorem y170 : tfld Try.prog 46 1 = some 2 := by kernel_rfl
theorem y171 : tfldt Try.prog 46 2 = some (3, 44) := by kernel_rfl
theorem y172 : tfld Try.prog 46 2 = some 3 := by kernel_rfl
theorem y173 : tfldt Try.prog 46 3 = some (15, 3) := by kernel_rfl
theorem y174 : tfld Try.prog 46 3 = some 15 := by kernel_rfl
theorem y175 : tfldt Try.prog 46 4 = some (16, 45) := by kernel_rfl
theorem y176 : tfld Try.prog 46 4 = some 16 := by kernel_rfl
theorem y177 : tfldt Try.prog 46 5 = some (17, 4) := by kernel_rfl
theorem y178 : tfld Try.prog 46 5 = some 17 := by kernel_rfl
theorem y179 : tfldt Try.prog 46 6 = some (18, 22) := by kernel_rfl
theorem y180 : tfld Try.prog 46 6 = some 18 := by kernel_rfl
theorem y181 : tsz Try.prog 47 = some 19 := by kernel_rfl
theorem y182 : tagg Try.prog 47 = some true := by kernel_rfl
theorem y183 : tzc Try.prog 47 = some [M.d (D.v (Value.int IntKind.i64 0)), M.d (D.v (Value.int IntKind.i64 0)), M.d (D.v (Value.int IntKind.i64 0)), M.d (D.v (Value.bool false)), M.d (D.v (Value.slice none 0 0)), M.d (D.v (Value.int IntKind.i64 0)), M.d (D.v (Value.bool false)), M.d (D.v (Value.slice none 0 0)), M.d (D.v (Value.int IntKind.i64 0)), M.d (D.v (Value.bool false)), M.d (D.v (Value.slice none 0 0)), M.d (D.v (Value.int IntKind.i64 0)), M.d (D.v (Value.bool false)), M.d (D.v (Value.slice none 0 0)), M.d (D.v (Value.int IntKind.i64 0)), M.d (D.v (Value.int IntKind.i64 0)), M.d (D.v (Value.slice none 0 0)), M.d (D.v (Value.bool false)), M.d (D.v (Value.slice none 0 0))] := by kernel_rfl
theorem y184 : tz Try.prog 47 = some [M.d (D.v (Value.int IntKind.i64 0)), M.d (D.v (Value.int IntKind.i64 0)), M.d (D.v (Value.int IntKind.i64 0)), M.d (D.v (Value.bool false)), M.d (D.v (Value.slice none 0 0)), M.d (D.v (Value.int IntKind.i64 0)), M.d (D.v (Value.bool false)), M.d (D.v (Value.slice none 0 0)), M.d (D.v (Value.int IntKind.i64 0)), M.d (D.v (Value.bool false)), M.d (D.v (Value.slice none 0 0)), M.d (D.v (Value.int IntKind.i64 0)), M.d (D.v (Value.bool false)), M.d (D.v (Value.slice none 0 0)), M.d (D.v (Value.int IntKind.i64 0)), M.d (D.v (Value.int IntKind.i64 0)), M.d (D.v (Value.slice none 0 0)), M.d (D.v (Value.bool false)), M.d (D.v (Value.slice none 0 0))] := by kernel_rfl
theorem y185 : tpl Try.prog 47 = some (Pl.fs [(0, 2), (2, 1), (3, 12), (15, 1), (16, 1), (17, 1), (18, 1)]) := by kernel_rfl
theorem y186 : tsl Try.prog 47 = none := by kernel_rfl
theorem y187 : cty Try.prog 9 47 = [none, none, none, none, some 2, none, none, some 2, none, none, some 2, none, none, some 2, none, none, some 2, none, some 1] := by kernel_rfl
theorem y188 : tfldt Try.prog 47 0 = some (0, 40) := by kernel_rfl
theorem y189 : tfld Try.prog 47 0 = some 0 := by kernel_rfl
theorem y190 : tfldt Try.prog 47 1 = some (2, 3) := by kernel_rfl
theorem y191 : tfld Try.prog 47 1 = some 2 := by kernel_rfl
theorem y192 : tfldt Try.prog 47 2 = some (3, 44) := by kernel_rfl
theorem y193 : tfld Try.prog 47 2 = some 3 := by kernel_rfl
theorem y194 : tfldt Try.prog 47 3 = some (15, 3) := by kernel_rfl
theorem y195 : tfld Try.prog 47 3 = some 15 := by kernel_rfl
theorem y196 : tfldt Try.prog 47 4 = some (16, 45) := by kernel_rfl
theorem y197 : tfld Try.prog 47 4 = some 16 := by kernel_rfl
theorem y198 : tfldt Try.prog 47 5 = some (17, 4) := by kernel_rfl
theorem y199 : tfld Try.prog 47 5 = some 17 := by kernel_rfl
theorem y200 : tfldt Try.prog 47 6 = some (18, 22) := by kernel_rfl
theorem y201 : tfld Try.prog 47 6 = some 18 := by kernel_rfl
theorem y202 : tsz Try.prog 48 = some 2 := by kernel_rfl
theorem y203 : tagg Try.prog 48 = some true := by kernel_rfl
theorem y204 : tzc Try.prog 48 = some [M.d (D.v (Value.int IntKind.i64 0)), M.d (D.v (Value.int IntKind.i64 0))] := by kernel_rfl
theorem y205 : tz Try.prog 48 = some [M.d (D.v (Value.int IntKind.i64 0)), M.d (D.v (Value.int IntKind.i64 0))] := by kernel_rfl
theorem y206 : tpl Try.prog 48 = some (Pl.fs [(0, 1), (1, 1)]) := by kernel_rfl
theorem y207 : tsl Try.prog 48 = none := by kernel_rfl
theorem y208 : cty Try.prog 9 48 = [none, none] := by kernel_rfl
theorem y209 : tfldt Try.prog 48 0 = some (0, 3) := by kernel_rfl
theorem y210 : tfld Try.prog 48 0 = some 0 := by kernel_rfl
theorem y211 : tfldt Try.prog 48 1 = some (1, 3) := by kernel_rfl
theorem y212 : tfld Try.prog 48 1 = some 1 := by kernel_rfl
theorem y213 : tsz Try.prog 49 = some 2 := by kernel_rfl
theorem y214 : tagg Try.prog 49 = some true := by kernel_rfl
theorem y215 : tzc Try.prog 49 = some [M.d (D.v (Value.int IntKind.i64 0)), M.d (D.v (Value.int IntKind.i64 0))] := by kernel_rfl
theorem y216 : tz Try.prog 49 = some [M.d (D.v (Value.int IntKind.i64 0)), M.d (D.v (Value.int IntKind.i64 0))] := by kernel_rfl
theorem y217 : tpl Try.prog 49 = some (Pl.fs [(0, 1), (1, 1)]) := by kernel_rfl
theorem y218 : tsl Try.prog 49 = none := by kernel_rfl
theorem y219 : cty Try.prog 9 49 = [none, none] := by kernel_rfl
theorem y220 : tfldt Try.prog 49 0 = some (0, 3) := by kernel_rfl
theorem y221 : tfld Try.prog 49 0 = some 0 := by kernel_rfl
theorem y222 : tfldt Try.prog 49 1 = some (1, 3) := by kernel_rfl
theorem y223 : tfld Try.prog 49 1 = some 1 := by kernel_rfl
theorem y224 : tsz Try.prog 50 = some 8 := by kernel_rfl
theorem y225 : tagg Try.prog 50 = some true := by kernel_rfl
theorem y226 : tzc Try.prog 50 = some [M.d (D.v (Value.int IntKind.i64 0)), M.d (D.v (Value.int IntKind.i64 0)), M.d (D.v (Value.int IntKind.i64 0)), M.d (D.v (Value.int IntKind.i64 0)), M.d (D.v (Value.int IntKind.i64 0)), M.d (D.v (Value.int IntKind.i64 0)), M.d (D.v (Value.int IntKind.i64 0)), M.d (D.v (Value.int IntKind.i64 0))] := by kernel_rfl
theorem y227 : tz Try.prog 50 = some [M.d (D.v (Value.int IntKind.i64 0)), M.d (D.v (Value.int IntKind.i64 0)), M.d (D.v (Value.int IntKind.i64 0)), M.d (D.v (Value.int IntKind.i64 0)), M.d (D.v (Value.int IntKind.i64 0)), M.d (D.v (Value.int IntKind.i64 0)), M.d (D.v (Value.int IntKind.i64 0)), M.d (D.v (Value.int IntKind.i64 0))] := by kernel_rfl
theorem y228 : tpl Try.prog 50 = some (Pl.es 2) := by kernel_rfl
theorem y229 : tarr Try.prog 50 = some (4, 49) := by kernel_rfl
theorem y230 : tsl Try.prog 50 = none := by kernel_rfl
theorem y231 : cty Try.prog 9 50 = [none, none, none, none, none, none, none, none] := by kernel_rfl
theorem y232 : tsz Try.prog 51 = some 7 := by kernel_rfl
theorem y233 : tagg Try.prog 51 = some true := by kernel_rfl
theorem y234 : tzc Try.prog 51 = some [M.d (D.v (Value.int IntKind.i64 0)), M.d (D.v (Value.int IntKind.i64 0)), M.d (D.v (Value.slice none 0 0)), M.d (D.v (Value.int IntKind.i64 0)), M.d (D.v (Value.int IntKind.i64 0)), M.d (D.v (Value.int IntKind.i64 0)), M.d (D.v (Value.int IntKind.i64 0))] := by kernel_rfl
theorem y235 : tz Try.prog 51 = some [M.d (D.v (Value.int IntKind.i64 0)), M.d (D.v (Value.int IntKind.i64 0)), M.d (D.v (Value.slice none 0 0)), M.d (D.v (Value.int IntKind.i64 0)), M.d (D.v (Value.int IntKind.i64 0)), M.d (D.v (Value.int IntKind.i64 0)), M.d (D.v (Value.int IntKind.i64 0))] := by kernel_rfl
theorem y236 : tpl Try.prog 51 = some (Pl.fs [(0, 1), (1, 1), (2, 1), (3, 1), (4, 2), (6, 1)]) := by kernel_rfl
theorem y237 : tsl Try.prog 51 = none := by kernel_rfl
theorem y238 : cty Try.prog 9 51 = [none, none, some 1, none, none, none, none] := by kernel_rfl
theorem y239 : tfldt Try.prog 51 0 = some (0, 3) := by kernel_rfl
theorem y240 : tfld Try.prog 51 0 = some 0 := by kernel_rfl
theorem y241 : tfldt Try.prog 51 1 = some (1, 3) := by kernel_rfl
theorem y242 : tfld Try.prog 51 1 = some 1 := by kernel_rfl
theorem y243 : tfldt Try.prog 51 2 = some (2, 22) := by kernel_rfl
theorem y244 : tfld Try.prog 51 2 = some 2 := by kernel_rfl
theorem y245 : tfldt Try.prog 51 3 = some (3, 3) := by kernel_rfl
theorem y246 : tfld Try.prog 51 3 = some 3 := by kernel_rfl
theorem y247 : tfldt Try.prog 51 4 = some (4, 49) := by kernel_rfl
theorem y248 : tfld Try.prog 51 4 = some 4 := by kernel_rfl
theorem y249 : tfldt Try.prog 51 5 = some (6, 3) := by kernel_rfl
theorem y250 : tfld Try.prog 51 5 = some 6 := by kernel_rfl
theorem y251 : tsz Try.prog 52 = some 7 := by kernel_rfl
theorem y252 : tagg Try.prog 52 = some true := by kernel_rfl
theorem y253 : tzc Try.prog 52 = some [M.d (D.v (Value.int IntKind.i64 0)), M.d (D.v (Value.int IntKind.i64 0)), M.d (D.v (Value.slice none 0 0)), M.d (D.v (Value.int IntKind.i64 0)), M.d (D.v (Value.int IntKind.i64 0)), M.d (D.v (Value.int IntKind.i64 0)), M.d (D.v (Value.int IntKind.i64 0))] := by kernel_rfl
theorem y254 : tz Try.prog 52 = some [M.d (D.v (Value.int IntKind.i64 0)), M.d (D.v (Value.int IntKind.i64 0)), M.d (D.v (Value.slice none 0 0)), M.d (D.v (Value.int IntKind.i64 0)), M.d (D.v (Value.int IntKind.i64 0)), M.d (D.v (Value.int IntKind.i64 0)), M.d (D.v (Value.int IntKind.i64 0))] := by kernel_rfl
theorem y255 : tpl Try.prog 52 = some (Pl.fs [(0, 1), (1, 1), (2, 1), (3, 1), (4, 2), (6, 1)]) := by kernel_rfl
theorem y256 : tsl Try.prog 52 = none := by kernel_rfl
theorem y257 : cty Try.prog 9 52 = [none, none, some 1, none, none, none, none] := by kernel_rfl
theorem y258 : tfldt Try.prog 52 0 = some (0, 3) := by kernel_rfl
theorem y259 : tfld Try.prog 52 0 = some 0 := by kernel_rfl
theorem y260 : tfldt Try.prog 52 1 = some (1, 3) := by kernel_rfl
theorem y261 : tfld Try.prog 52 1 = some 1 := by kernel_rfl
theorem y262 : tfldt Try.prog 52 2 = some (2, 22) := by kernel_rfl
theorem y263 : tfld Try.prog 52 2 = some 2 := by kernel_rfl
theorem y264 : tfldt Try.prog 52 3 = some (3, 3) := by kernel_rfl
theorem y265 : tfld Try.prog 52 3 = some 3 := by kernel_rfl
theorem y266 : tfldt Try.prog 52 4 = some (4, 49) := by kernel_rfl
theorem y267 : tfld Try.prog 52 4 = some 4 := by kernel_rfl
theorem y268 : tfldt Try.prog 52 5 = some (6, 3) := by kernel_rfl
theorem y269 : tfld Try.prog 52 5 = some 6 := by kernel_rfl
theorem y270 : tsz Try.prog 54 = some 1 := by kernel_rfl
theorem y271 : tagg Try.prog 54 = some false := by kernel_rfl
theorem y272 : tzc Try.prog 54 = some [M.d (D.v (Value.slice none 0 0))] := by kernel_rfl
theorem y273 : tz Try.prog 54 = some [M.d (D.v (Value.slice none 0 0))] := by kernel_rfl
theorem y274 : telem Try.prog 54 = some 47 := by kernel_rfl
theorem y275 : tel Try.prog 54 = some (19, 248, [M.d (D.v (Value.int IntKind.i64 0)), M.d (D.v (Value.int IntKind.i64 0)), M.d (D.v (Value.int IntKind.i64 0)), M.d (D.v (Value.bool false)), M.d (D.v (Value.slice none 0 0)), M.d (D.v (Value.int IntKind.i64 0)), M.d (D.v (Value.bool false)), M.d (D.v (Value.slice none 0 0)), M.d (D.v (Value.int IntKind.i64 0)), M.d (D.v (Value.bool false)), M.d (D.v (Value.slice none 0 0)), M.d (D.v (Value.int IntKind.i64 0)), M.d (D.v (Value.bool false)), M.d (D.v (Value.slice none 0 0)), M.d (D.v (Value.int IntKind.i64 0)), M.d (D.v (Value.int IntKind.i64 0)), M.d (D.v (Value.slice none 0 0)), M.d (D.v (Value.bool false)), M.d (D.v (Value.slice none 0 0))]) := by kernel_rfl
theorem y276 : isStr Try.prog 54 = false := by kernel_rfl
theorem y277 : isU8 Try.prog 54 = false := by kernel_rfl
theorem y278 : tbytes Try.prog 54 = false := by kernel_rfl
theorem y279 : tsl Try.prog 54 = some 19 := by kernel_rfl
theorem y280 : tsz Try.prog 58 = some 1 := by kernel_rfl
theorem y281 : tagg Try.prog 58 = some false := by kernel_rfl
theorem y282 : tzc Try.prog 58 = some [M.d (D.v (Value.slice none 0 0))] := by kernel_rfl
theorem y283 : tz Try.prog 58 = some [M.d (D.v (Value.slice none 0 0))] := by kernel_rfl
theorem y284 : telem Try.prog 58 = some 137 := by kernel_rfl
theorem y285 : tel Try.prog 58 = some (2, 16, [M.d (D.v (Value.int IntKind.i64 0)), M.d (D.v (Value.int IntKind.i64 0))]) := by kernel_rfl
theorem y286 : isStr Try.prog 58 = false := by kernel_rfl
theorem y287 : isU8 Try.prog 58 = false := by kernel_rfl
theorem y288 : tbytes Try.prog 58 = false := by kernel_rfl
theorem y289 : tsl Try.prog 58 = some 2 := by kernel_rfl
theorem y290 : tsz Try.prog 59 = some 3 := by kernel_rfl
theorem y291 : tagg Try.prog 59 = some true := by kernel_rfl
theorem y292 : tzc Try.prog 59 = some [M.d (D.v (Value.int IntKind.i64 0)), M.d (D.v (Value.int IntKind.i64 0)), M.d (D.v (Value.slice none 0 0))] := by kernel_rfl
theorem y293 : tz Try.prog 59 = some [M.d (D.v (Value.int IntKind.i64 0)), M.d (D.v (Value.int IntKind.i64 0)), M.d (D.v (Value.slice none 0 0))] := by kernel_rfl
theorem y294 : tpl Try.prog 59 = some (Pl.fs [(0, 1), (1, 1), (2, 1)]) := by kernel_rfl
theorem y295 : tsl Try.prog 59 = none := by kernel_rfl
theorem y296 : cty Try.prog 9 59 = [none, none, some 2] := by kernel_rfl
theorem y297 : tfldt Try.prog 59 0 = some (0, 3) := by kernel_rfl
theorem y298 : tfld Try.prog 59 0 = some 0 := by kernel_rfl
theorem y299 : tfldt Try.prog 59 1 = some (1, 3) := by kernel_rfl
theorem y300 : tfld Try.prog 59 1 = some 1 := by kernel_rfl
theorem y301 : tfldt Try.prog 59 2 = some (2, 58) := by kernel_rfl
theorem y302 : tfld Try.prog 59 2 = some 2 := by kernel_rfl
theorem y303 : tsz Try.prog 60 = some 3 := by kernel_rfl
theorem y304 : tagg Try.prog 60 = some true := by kernel_rfl
theorem y305 : tzc Try.prog 60 = some [M.d (D.v (Value.int IntKind.i64 0)), M.d (D.v (Value.int IntKind.i64 0)), M.d (D.v (Value.slice none 0 0))] := by kernel_rfl
theorem y306 : tz Try.prog 60 = some [M.d (D.v (Value.int IntKind.i64 0)), M.d (D.v (Value.int IntKind.i64 0)), M.d (D.v (Value.slice none 0 0))] := by kernel_rfl
theorem y307 : tpl Try.prog 60 = some (Pl.fs [(0, 1), (1, 1), (2, 1)]) := by kernel_rfl
theorem y308 : tsl Try.prog 60 = none := by kernel_rfl
theorem y309 : cty Try.prog 9 60 = [none, none, some 2] := by kernel_rfl
theorem y310 : tfldt Try.prog 60 0 = some (0, 3) := by kernel_rfl
theorem y311 : tfld Try.prog 60 0 = some 0 := by kernel_rfl
theorem y312 : tfldt Try.prog 60 1 = some (1, 3) := by kernel_rfl
theorem y313 : tfld Try.prog 60 1 = some 1 := by kernel_rfl
theorem y314 : tfldt Try.prog 60 2 = some (2, 58) := by kernel_rfl
theorem y315 : tfld Try.prog 60 2 = some 2 := by kernel_rfl
theorem y316 : tsz Try.prog 61 = some 12 := by kernel_rfl
theorem y317 : tagg Try.prog 61 = some true := by kernel_rfl
theorem y318 : tzc Try.prog 61 = some [M.d (D.v (Value.int IntKind.i64 0)), M.d (D.v (Value.int IntKind.i64 0)), M.d (D.v (Value.slice none 0 0)), M.d (D.v (Value.int IntKind.i64 0)), M.d (D.v (Value.int IntKind.i64 0)), M.d (D.v (Value.slice none 0 0)), M.d (D.v (Value.int IntKind.i64 0)), M.d (D.v (Value.int IntKind.i64 0)), M.d (D.v (Value.slice none 0 0)), M.d (D.v (Value.int IntKind.i64 0)), M.d (D.v (Value.int IntKind.i64 0)), M.d (D.v (Value.slice none 0 0))] := by kernel_rfl
theorem y319 : tz Try.prog 61 = some [M.d (D.v (Value.int IntKind.i64 0)), M.d (D.v (Value.int IntKind.i64 0)), M.d (D.v (Value.slice none 0 0)), M.d (D.v (Value.int IntKind.i64 0)), M.d (D.v (Value.int IntKind.i64 0)), M.d (D.v (Value.slice none 0 0)), M.d (D.v (Value.int IntKind.i64 0)), M.d (D.v (Value.int IntKind.i64 0)), M.d (D.v (Value.slice none 0 0)), M.d (D.v (Value.int IntKind.i64 0)), M.d (D.v (Value.int IntKind.i64 0)), M.d (D.v (Value.slice none 0 0))] := by kernel_rfl
theorem y320 : tpl Try.prog 61 = some (Pl.es 3) := by kernel_rfl
theorem y321 : tarr Try.prog 61 = some (4, 60) := by kernel_rfl
theorem y322 : tsl Try.prog 61 = none := by kernel_rfl
theorem y323 : cty Try.prog 9 61 = [none, none, some 2, none, none, some 2, none, none, some 2, none, none, some 2] := by kernel_rfl
theorem y324 : tsz Try.prog 62 = some 21 := by kernel_rfl
theorem y325 : tagg Try.prog 62 = some true := by kernel_rfl
theorem y326 : tzc Try.prog 62 = some [M.d (D.v (Value.int IntKind.i64 0)), M.d (D.v (Value.int IntKind.i64 0)), M.d (D.v (Value.int IntKind.i64 0)), M.d (D.v (Value.int IntKind.i64 0)), M.d (D.v (Value.int IntKind.i64 0)), M.d (D.v (Value.slice none 0 0)), M.d (D.v (Value.int IntKind.i64 0)), M.d (D.v (Value.slice none 0 0)), M.d (D.v (Value.int IntKind.i64 0)), M.d (D.v (Value.int IntKind.i64 0)), M.d (D.v (Value.slice none 0 0)), M.d (D.v (Value.int IntKind.i64 0)), M.d (D.v (Value.int IntKind.i64 0)), M.d (D.v (Value.slice none 0 0)), M.d (D.v (Value.int IntKind.i64 0)), M.d (D.v (Value.int IntKind.i64 0)), M.d (D.v (Value.slice none 0 0)), M.d (D.v (Value.int IntKind.i64 0)), M.d (D.v (Value.int IntKind.i64 0)), M.d (D.v (Value.slice none 0 0)), strM []] := by kernel_rfl
theorem y327 : tz Try.prog 62 = some [M.d (D.v (Value.int IntKind.i64 0)), M.d (D.v (Value.int IntKind.i64 0)), M.d (D.v (Value.int IntKind.i64 0)), M.d (D.v (Value.int IntKind.i64 0)), M.d (D.v (Value.int IntKind.i64 0)), M.d (D.v (Value.slice none 0 0)), M.d (D.v (Value.int IntKind.i64 0)), M.d (D.v (Value.slice none 0 0)), M.d (D.v (Value.int IntKind.i64 0)), M.d (D.v (Value.int IntKind.i64 0)), M.d (D.v (Value.slice none 0 0)), M.d (D.v (Value.int IntKind.i64 0)), M.d (D.v (Value.int IntKind.i64 0)), M.d (D.v (Value.slice none 0 0)), M.d (D.v (Value.int IntKind.i64 0)), M.d (D.v (Value.int IntKind.i64 0)), M.d (D.v (Value.slice none 0 0)), M.d (D.v (Value.int IntKind.i64 0)), M.d (D.v (Value.int IntKind.i64 0)), M.d (D.v (Value.slice none 0 0)), strM []] := by kernel_rfl
theorem y328 : tpl Try.prog 62 = some (Pl.fs [(0, 1), (1, 1), (2, 1), (3, 1), (4, 1), (5, 1), (6, 1), (7, 1), (8, 12), (20, 1)]) := by kernel_rfl
theorem y329 : tsl Try.prog 62 = none := by kernel_rfl
theorem y330 : cty Try.prog 9 62 = [none, none, none, none, none, some 2, none, some 1, none, none, some 2, none, none, some 2, none, none, some 2, none, none, some 2, none] := by kernel_rfl
theorem y331 : tfldt Try.prog 62 0 = some (0, 3) := by kernel_rfl
theorem y332 : tfld Try.prog 62 0 = some 0 := by kernel_rfl
theorem y333 : tfldt Try.prog 62 1 = some (1, 3) := by kernel_rfl
theorem y334 : tfld Try.prog 62 1 = some 1 := by kernel_rfl
theorem y335 : tfldt Try.prog 62 2 = some (2, 3) := by kernel_rfl
theorem y336 : tfld Try.prog 62 2 = some 2 := by kernel_rfl
theorem y337 : tfldt Try.prog 62 3 = some (3, 3) := by kernel_rfl
theorem y338 : tfld Try.prog 62 3 = some 3 := by kernel_rfl
theorem y339 : tfldt Try.prog 62 4 = some (4, 3) := by kernel_rfl
theorem y340 : tfld Try.prog 62 4 = some 4 := by kernel_rfl
theorem y341 : tfldt Try.prog 62 5 = some (5, 45) := by kernel_rfl
theorem y342 : tfld Try.prog 62 5 = some 5 := by kernel_rfl
theorem y343 : tfldt Try.prog 62 6 = some (6, 3) := by kernel_rfl
theorem y344 : tfld Try.prog 62 6 = some 6 := by kernel_rfl
theorem y345 : tfldt Try.prog 62 7 = some (7, 22) := by kernel_rfl
theorem y346 : tfld Try.prog 62 7 = some 7 := by kernel_rfl
theorem y347 : tfldt Try.prog 62 8 = some (8, 61) := by kernel_rfl
theorem y348 : tfld Try.prog 62 8 = some 8 := by kernel_rfl
theorem y349 : tfldt Try.prog 62 9 = some (20, 9) := by kernel_rfl
theorem y350 : tfld Try.prog 62 9 = some 20 := by kernel_rfl
theorem y351 : tsz Try.prog 63 = some 21 := by kernel_rfl
theorem y352 : tagg Try.prog 63 = some true := by kernel_rfl
theorem y353 : tzc Try.prog 63 = some [M.d (D.v (Value.int IntKind.i64 0)), M.d (D.v (Value.int IntKind.i64 0)), M.d (D.v (Value.int IntKind.i64 0)), M.d (D.v (Value.int IntKind.i64 0)), M.d (D.v (Value.int IntKind.i64 0)), M.d (D.v (Value.slice none 0 0)), M.d (D.v (Value.int IntKind.i64 0)), M.d (D.v (Value.slice none 0 0)), M.d (D.v (Value.int IntKind.i64 0)), M.d (D.v (Value.int IntKind.i64 0)), M.d (D.v (Value.slice none 0 0)), M.d (D.v (Value.int IntKind.i64 0)), M.d (D.v (Value.int IntKind.i64 0)), M.d (D.v (Value.slice none 0 0)), M.d (D.v (Value.int IntKind.i64 0)), M.d (D.v (Value.int IntKind.i64 0)), M.d (D.v (Value.slice none 0 0)), M.d (D.v (Value.int IntKind.i64 0)), M.d (D.v (Value.int IntKind.i64 0)), M.d (D.v (Value.slice none 0 0)), strM []] := by kernel_rfl
theorem y354 : tz Try.prog 63 = some [M.d (D.v (Value.int IntKind.i64 0)), M.d (D.v (Value.int IntKind.i64 0)), M.d (D.v (Value.int IntKind.i64 0)), M.d (D.v (Value.int IntKind.i64 0)), M.d (D.v (Value.int IntKind.i64 0)), M.d (D.v (Value.slice none 0 0)), M.d (D.v (Value.int IntKind.i64 0)), M.d (D.v (Value.slice none 0 0)), M.d (D.v (Value.int IntKind.i64 0)), M.d (D.v (Value.int IntKind.i64 0)), M.d (D.v (Value.slice none 0 0)), M.d (D.v (Value.int IntKind.i64 0)), M.d (D.v (Value.int IntKind.i64 0)), M.d (D.v (Value.slice none 0 0)), M.d (D.v (Value.int IntKind.i64 0)), M.d (D.v (Value.int IntKind.i64 0)), M.d (D.v (Value.slice none 0 0)), M.d (D.v (Value.int IntKind.i64 0)), M.d (D.v (Value.int IntKind.i64 0)), M.d (D.v (Value.slice none 0 0)), strM []] := by kernel_rfl
theorem y355 : tpl Try.prog 63 = some (Pl.fs [(0, 1), (1, 1), (2, 1), (3, 1), (4, 1), (5, 1), (6, 1), (7, 1), (8, 12), (20, 1)]) := by kernel_rfl
theorem y356 : tsl Try.prog 63 = none := by kernel_rfl
theorem y357 : cty Try.prog 9 63 = [none, none, none, none, none, some 2, none, some 1, none, none, some 2, none, none, some 2, none, none, some 2, none, none, some 2, none] := by kernel_rfl
theorem y358 : tfldt Try.prog 63 0 = some (0, 3) := by kernel_rfl
theorem y359 : tfld Try.prog 63 0 = some 0 := by kernel_rfl
theorem y360 : tfldt Try.prog 63 1 = some (1, 3) := by kernel_rfl
theorem y361 : tfld Try.prog 63 1 = some 1 := by kernel_rfl
theorem y362 : tfldt Try.prog 63 2 = some (2, 3) := by kernel_rfl
theorem y363 : tfld Try.prog 63 2 = some 2 := by kernel_rfl
theorem y364 : tfldt Try.prog 63 3 = some (3, 3) := by kernel_rfl
theorem y365 : tfld Try.prog 63 3 = some 3 := by kernel_rfl
theorem y366 : tfldt Try.prog 63 4 = some (4, 3) := by kernel_rfl
theorem y367 : tfld Try.prog 63 4 = some 4 := by kernel_rfl
theorem y368 : tfldt Try.prog 63 5 = some (5, 45) := by kernel_rfl
theorem y369 : tfld Try.prog 63 5 = some 5 := by kernel_rfl
theorem y370 : tfldt Try.prog 63 6 = some (6, 3) := by kernel_rfl
theorem y371 : tfld Try.prog 63 6 = some 6 := by kernel_rfl
theorem y372 : tfldt Try.prog 63 7 = some (7, 22) := by kernel_rfl
theorem y373 : tfld Try.prog 63 7 = some 7 := by kernel_rfl
theorem y374 : tfldt Try.prog 63 8 = some (8, 61) := by kernel_rfl
theorem y375 : tfld Try.prog 63 8 = some 8 := by kernel_rfl
theorem y376 : tfldt Try.prog 63 9 = some (20, 9) := by kernel_rfl
theorem y377 : tfld Try.prog 63 9 = some 20 := by kernel_rfl
theorem y378 : tsz Try.prog 67 = some 2 := by kernel_rfl
theorem y379 : tagg Try.prog 67 = some true := by kernel_rfl
theorem y380 : tzc Try.prog 67 = some [M.d (D.v (Value.int IntKind.i64 0)), M.d (D.v (Value.slice none 0 0))] := by kernel_rfl
theorem y381 : tz Try.prog 67 = some [M.d (D.v (Value.int IntKind.i64 0)), M.d (D.v (Value.slice none 0 0))] := by kernel_rfl
theorem y382 : tpl Try.prog 67 = some (Pl.fs [(0, 1), (1, 1)]) := by kernel_rfl
theorem y383 : tsl Try.prog 67 = none := by kernel_rfl
theorem y384 : cty Try.prog 9 67 = [none, some 1] := by kernel_rfl
theorem y385 : tfldt Try.prog 67 0 = some (0, 3) := by kernel_rfl
theorem y386 : tfld Try.prog 67 0 = some 0 := by kernel_rfl
theorem y387 : tfldt Try.prog 67 1 = some (1, 22) := by kernel_rfl
theorem y388 : tfld Try.prog 67 1 = some 1 := by kernel_rfl
theorem y389 : tsz Try.prog 68 = some 2 := by kernel_rfl
theorem y390 : tagg Try.prog 68 = some true := by kernel_rfl
theorem y391 : tzc Try.prog 68 = some [M.d (D.v (Value.int IntKind.i64 0)), M.d (D.v (Value.slice none 0 0))] := by kernel_rfl
theorem y392 : tz Try.prog 68 = some [M.d (D.v (Value.int IntKind.i64 0)), M.d (D.v (Value.slice none 0 0))] := by kernel_rfl
theorem y393 : tpl Try.prog 68 = some (Pl.fs [(0, 1), (1, 1)]) := by kernel_rfl
theorem y394 : tsl Try.prog 68 = none := by kernel_rfl
theorem y395 : cty Try.prog 9 68 = [none, some 1] := by kernel_rfl
theorem y396 : tfldt Try.prog 68 0 = some (0, 3) := by kernel_rfl
theorem y397 : tfld Try.prog 68 0 = some 0 := by kernel_rfl
theorem y398 : tfldt Try.prog 68 1 = some (1, 22) := by kernel_rfl
theorem y399 : tfld Try.prog 68 1 = some 1 := by kernel_rfl
theorem y400 : tsz Try.prog 72 = some 1 := by kernel_rfl
theorem y401 : tagg Try.prog 72 = some false := by kernel_rfl
theorem y402 : tzc Try.prog 72 = some [M.d (D.v (Value.slice none 0 0))] := by kernel_rfl
theorem y403 : tz Try.prog 72 = some [M.d (D.v (Value.slice none 0 0))] := by kernel_rfl
theorem y404 : telem Try.prog 72 = some 52 := by kernel_rfl
theorem y405 : tel Try.prog 72 = some (7, 72, [M.d (D.v (Value.int IntKind.i64 0)), M.d (D.v (Value.int IntKind.i64 0)), M.d (D.v (Value.slice none 0 0)), M.d (D.v (Value.int IntKind.i64 0)), M.d (D.v (Value.int IntKind.i64 0)), M.d (D.v (Value.int IntKind.i64 0)), M.d (D.v (Value.int IntKind.i64 0))]) := by kernel_rfl
theorem y406 : isStr Try.prog 72 = false := by kernel_rfl
theorem y407 : isU8 Try.prog 72 = false := by kernel_rfl
theorem y408 : tbytes Try.prog 72 = false := by kernel_rfl
theorem y409 : tsl Try.prog 72 = some 7 := by kernel_rfl
theorem y410 : tsz Try.prog 73 = some 2 := by kernel_rfl
theorem y411 : tagg Try.prog 73 = some true := by kernel_rfl
theorem y412 : tzc Try.prog 73 = some [strM [], M.d (D.v (Value.slice none 0 0))] := by kernel_rfl
theorem y413 : tz Try.prog 73 = some [strM [], M.d (D.v (Value.slice none 0 0))] := by kernel_rfl
theorem y414 : tpl Try.prog 73 = some (Pl.fs [(0, 1), (1, 1)]) := by kernel_rfl
theorem y415 : tsl Try.prog 73 = none := by kernel_rfl
theorem y416 : cty Try.prog 9 73 = [none, some 7] := by kernel_rfl
theorem y417 : tfldt Try.prog 73 0 = some (0, 9) := by kernel_rfl
theorem y418 : tfld Try.prog 73 0 = some 0 := by kernel_rfl
theorem y419 : tfldt Try.prog 73 1 = some (1, 72) := by kernel_rfl
theorem y420 : tfld Try.prog 73 1 = some 1 := by kernel_rfl
theorem y421 : tsz Try.prog 74 = some 2 := by kernel_rfl
theorem y422 : tagg Try.prog 74 = some true := by kernel_rfl
theorem y423 : tzc Try.prog 74 = some [strM [], M.d (D.v (Value.slice none 0 0))] := by kernel_rfl
theorem y424 : tz Try.prog 74 = some [strM [], M.d (D.v (Value.slice none 0 0))] := by kernel_rfl
theorem y425 : tpl Try.prog 74 = some (Pl.fs [(0, 1), (1, 1)]) := by kernel_rfl
theorem y426 : tsl Try.prog 74 = none := by kernel_rfl
theorem y427 : cty Try.prog 9 74 = [none, some 7] := by kernel_rfl
theorem y428 : tfldt Try.prog 74 0 = some (0, 9) := by kernel_rfl
theorem y429 : tfld Try.prog 74 0 = some 0 := by kernel_rfl
theorem y430 : tfldt Try.prog 74 1 = some (1, 72) := by kernel_rfl
theorem y431 : tfld Try.prog 74 1 = some 1 := by kernel_rfl
theorem y432 : tsz Try.prog 76 = some 8 := by kernel_rfl
theorem y433 : tagg Try.prog 76 = some true := by kernel_rfl
theorem y434 : tzc Try.prog 76 = some [M.d (D.v (Value.int IntKind.i64 0)), M.d (D.v (Value.int IntKind.i64 0)), M.d (D.v (Value.slice none 0 0)), M.d (D.v (Value.int IntKind.i64 0)), M.d (D.v (Value.int IntKind.i64 0)), M.d (D.v (Value.bool false)), M.d (D.v (Value.int IntKind.i64 0)), M.d (D.v (Value.slice none 0 0))] := by kernel_rfl
theorem y435 : tz Try.prog 76 = some [M.d (D.v (Value.int IntKind.i64 0)), M.d (D.v (Value.int IntKind.i64 0)), M.d (D.v (Value.slice none 0 0)), M.d (D.v (Value.int IntKind.i64 0)), M.d (D.v (Value.int IntKind.i64 0)), M.d (D.v (Value.bool false)), M.d (D.v (Value.int IntKind.i64 0)), M.d (D.v (Value.slice none 0 0))] := by kernel_rfl
theorem y436 : tpl Try.prog 76 = some (Pl.fs [(0, 1), (1, 1), (2, 1), (3, 1), (4, 1), (5, 1), (6, 1), (7, 1)]) := by kernel_rfl
theorem y437 : tsl Try.prog 76 = none := by kernel_rfl
theorem y438 : cty Try.prog 9 76 = [none, none, some 1, none, none, none, none, some 2] := by kernel_rfl
theorem y439 : tfldt Try.prog 76 0 = some (0, 3) := by kernel_rfl
theorem y440 : tfld Try.prog 76 0 = some 0 := by kernel_rfl
theorem y441 : tfldt Try.prog 76 1 = some (1, 3) := by kernel_rfl
theorem y442 : tfld Try.prog 76 1 = some 1 := by kernel_rfl
theorem y443 : tfldt Try.prog 76 2 = some (2, 22) := by kernel_rfl
theorem y444 : tfld Try.prog 76 2 = some 2 := by kernel_rfl
theorem y445 : tfldt Try.prog 76 3 = some (3, 3) := by kernel_rfl
theorem y446 : tfld Try.prog 76 3 = some 3 := by kernel_rfl
theorem y447 : tfldt Try.prog 76 4 = some (4, 3) := by kernel_rfl
theorem y448 : tfld Try.prog 76 4 = some 4 := by kernel_rfl
theorem y449 : tfldt Try.prog 76 5 = some (5, 4) := by kernel_rfl
theorem y450 : tfld Try.prog 76 5 = some 5 := by kernel_rfl
theorem y451 : tfldt Try.prog 76 6 = some (6, 3) := by kernel_rfl
theorem y452 : tfld Try.prog 76 6 = some 6 := by kernel_rfl
theorem y453 : tfldt Try.prog 76 7 = some (7, 45) := by kernel_rfl
theorem y454 : tfld Try.prog 76 7 = some 7 := by kernel_rfl
theorem y455 : tsz Try.prog 77 = some 8 := by kernel_rfl
theorem y456 : tagg Try.prog 77 = some true := by kernel_rfl
theorem y457 : tzc Try.prog 77 = some [M.d (D.v (Value.int IntKind.i64 0)), M.d (D.v (Value.int IntKind.i64 0)), M.d (D.v (Value.slice none 0 0)), M.d (D.v (Value.int IntKind.i64 0)), M.d (D.v (Value.int IntKind.i64 0)), M.d (D.v (Value.bool false)), M.d (D.v (Value.int IntKind.i64 0)), M.d (D.v (Value.slice none 0 0))] := by kernel_rfl
theorem y458 : tz Try.prog 77 = some [M.d (D.v (Value.int IntKind.i64 0)), M.d (D.v (Value.int IntKind.i64 0)), M.d (D.v (Value.slice none 0 0)), M.d (D.v (Value.int IntKind.i64 0)), M.d (D.v (Value.int IntKind.i64 0)), M.d (D.v (Value.bool false)), M.d (D.v (Value.int IntKind.i64 0)), M.d (D.v (Value.slice none 0 0))] := by kernel_rfl
theorem y459 : tpl Try.prog 77 = some (Pl.fs [(0, 1), (1, 1), (2, 1), (3, 1), (4, 1), (5, 1), (6, 1), (7, 1)]) := by kernel_rfl
theorem y460 : tsl Try.prog 77 = none := by kernel_rfl
theorem y461 : cty Try.prog 9 77 = [none, none, some 1, none, none, none, none, some 2] := by kernel_rfl
theorem y462 : tfldt Try.prog 77 0 = some (0, 3) := by kernel_rfl
theorem y463 : tfld Try.prog 77 0 = some 0 := by kernel_rfl
theorem y464 : tfldt Try.prog 77 1 = some (1, 3) := by kernel_rfl
theorem y465 : tfld Try.prog 77 1 = some 1 := by kernel_rfl
theorem y466 : tfldt Try.prog 77 2 = some (2, 22) := by kernel_rfl
theorem y467 : tfld Try.prog 77 2 = some 2 := by kernel_rfl
theorem y468 : tfldt Try.prog 77 3 = some (3, 3) := by kernel_rfl
theorem y469 : tfld Try.prog 77 3 = some 3 := by kernel_rfl
theorem y470 : tfldt Try.prog 77 4 = some (4, 3) := by kernel_rfl
theorem y471 : tfld Try.prog 77 4 = some 4 := by kernel_rfl
theorem y472 : tfldt Try.prog 77 5 = some (5, 4) := by kernel_rfl
theorem y473 : tfld Try.prog 77 5 = some 5 := by kernel_rfl
theorem y474 : tfldt Try.prog 77 6 = some (6, 3) := by kernel_rfl
theorem y475 : tfld Try.prog 77 6 = some 6 := by kernel_rfl
theorem y476 : tfldt Try.prog 77 7 = some (7, 45) := by kernel_rfl
theorem y477 : tfld Try.prog 77 7 = some 7 := by kernel_rfl
theorem y478 : tsz Try.prog 84 = some 5 := by kernel_rfl
theorem y479 : tagg Try.prog 84 = some true := by kernel_rfl
theorem y480 : tzc Try.prog 84 = some [M.d (D.v (Value.int IntKind.i64 0)), M.d (D.v (Value.int IntKind.i64 0)), M.d (D.v (Value.int IntKind.i64 0)), M.d (D.v (Value.int IntKind.i64 0)), M.d (D.v (Value.int IntKind.i64 0))] := by kernel_rfl
theorem y481 : tz Try.prog 84 = some [M.d (D.v (Value.int IntKind.i64 0)), M.d (D.v (Value.int IntKind.i64 0)), M.d (D.v (Value.int IntKind.i64 0)), M.d (D.v (Value.int IntKind.i64 0)), M.d (D.v (Value.int IntKind.i64 0))] := by kernel_rfl
theorem y482 : tpl Try.prog 84 = some (Pl.fs [(0, 1), (1, 1), (2, 1), (3, 1), (4, 1)]) := by kernel_rfl
theorem y483 : tsl Try.prog 84 = none := by kernel_rfl
theorem y484 : cty Try.prog 9 84 = [none, none, none, none, none] := by kernel_rfl
theorem y485 : tfldt Try.prog 84 0 = some (0, 3) := by kernel_rfl
theorem y486 : tfld Try.prog 84 0 = some 0 := by kernel_rfl
theorem y487 : tfldt Try.prog 84 1 = some (1, 3) := by kernel_rfl
theorem y488 : tfld Try.prog 84 1 = some 1 := by kernel_rfl
theorem y489 : tfldt Try.prog 84 2 = some (2, 3) := by kernel_rfl
theorem y490 : tfld Try.prog 84 2 = some 2 := by kernel_rfl
theorem y491 : tfldt Try.prog 84 3 = some (3, 3) := by kernel_rfl
theorem y492 : tfld Try.prog 84 3 = some 3 := by kernel_rfl
theorem y493 : tfldt Try.prog 84 4 = some (4, 3) := by kernel_rfl
theorem y494 : tfld Try.prog 84 4 = some 4 := by kernel_rfl
theorem y495 : tsz Try.prog 85 = some 5 := by kernel_rfl
theorem y496 : tagg Try.prog 85 = some true := by kernel_rfl
theorem y497 : tzc Try.prog 85 = some [M.d (D.v (Value.int IntKind.i64 0)), M.d (D.v (Value.int IntKind.i64 0)), M.d (D.v (Value.int IntKind.i64 0)), M.d (D.v (Value.int IntKind.i64 0)), M.d (D.v (Value.int IntKind.i64 0))] := by kernel_rfl
theorem y498 : tz Try.prog 85 = some [M.d (D.v (Value.int IntKind.i64 0)), M.d (D.v (Value.int IntKind.i64 0)), M.d (D.v (Value.int IntKind.i64 0)), M.d (D.v (Value.int IntKind.i64 0)), M.d (D.v (Value.int IntKind.i64 0))] := by kernel_rfl
theorem y499 : tpl Try.prog 85 = some (Pl.fs [(0, 1), (1, 1), (2, 1), (3, 1), (4, 1)]) := by kernel_rfl
theorem y500 : tsl Try.prog 85 = none := by kernel_rfl
theorem y501 : cty Try.prog 9 85 = [none, none, none, none, none] := by kernel_rfl
theorem y502 : tfldt Try.prog 85 0 = some (0, 3) := by kernel_rfl
theorem y503 : tfld Try.prog 85 0 = some 0 := by kernel_rfl
theorem y504 : tfldt Try.prog 85 1 = some (1, 3) := by kernel_rfl
theorem y505 : tfld Try.prog 85 1 = some 1 := by kernel_rfl
theorem y506 : tfldt Try.prog 85 2 = some (2, 3) := by kernel_rfl
theorem y507 : tfld Try.prog 85 2 = some 2 := by kernel_rfl
theorem y508 : tfldt Try.prog 85 3 = some (3, 3) := by kernel_rfl
theorem y509 : tfld Try.prog 85 3 = some 3 := by kernel_rfl
theorem y510 : tfldt Try.prog 85 4 = some (4, 3) := by kernel_rfl
theorem y511 : tfld Try.prog 85 4 = some 4 := by kernel_rfl
theorem y512 : tsz Try.prog 92 = some 1 := by kernel_rfl
theorem y513 : tagg Try.prog 92 = some false := by kernel_rfl
theorem y514 : tzc Try.prog 92 = some [M.d (D.v (Value.int IntKind.u64 0))] := by kernel_rfl
theorem y515 : tz Try.prog 92 = some [M.d (D.v (Value.int IntKind.u64 0))] := by kernel_rfl
theorem y516 : tint Try.prog 92 = some IntKind.u64 := by kernel_rfl
theorem y517 : telem Try.prog 92 = none := by kernel_rfl
theorem y518 : isStr Try.prog 92 = false := by kernel_rfl
theorem y519 : isU8 Try.prog 92 = false := by kernel_rfl
theorem y520 : tbytes Try.prog 92 = false := by kernel_rfl
theorem y521 : tsl Try.prog 92 = none := by kernel_rfl
theorem y522 : tsz Try.prog 104 = some 1 := by kernel_rfl
theorem y523 : tagg Try.prog 104 = some false := by kernel_rfl
theorem y524 : tzc Try.prog 104 = some [M.d (D.v (Value.int IntKind.u16 0))] := by kernel_rfl
theorem y525 : tz Try.prog 104 = some [M.d (D.v (Value.int IntKind.u16 0))] := by kernel_rfl
theorem y526 : tint Try.prog 104 = some IntKind.u16 := by kernel_rfl
theorem y527 : telem Try.prog 104 = none := by kernel_rfl
theorem y528 : isStr Try.prog 104 = false := by kernel_rfl
theorem y529 : isU8 Try.prog 104 = false := by kernel_rfl
theorem y530 : tbytes Try.prog 104 = false := by kernel_rfl
theorem y531 : tsl Try.prog 104 = none := by kernel_rfl
theorem y532 : tsz Try.prog 130 = some 1 := by kernel_rfl
theorem y533 : tagg Try.prog 130 = some false := by kernel_rfl
theorem y534 : tzc Try.prog 130 = some [M.d (D.v (Value.slice none 0 0))] := by kernel_rfl
theorem y535 : tz Try.prog 130 = some [M.d (D.v (Value.slice none 0 0))] := by kernel_rfl
theorem y536 : telem Try.prog 130 = some 4 := by kernel_rfl
theorem y537 : tel Try.prog 130 = some (1, 1, [M.d (D.v (Value.bool false))]) := by kernel_rfl
theorem y538 : isStr Try.prog 130 = false := by kernel_rfl
theorem y539 : isU8 Try.prog 130 = false := by kernel_rfl
theorem y540 : tbytes Try.prog 130 = false := by kernel_rfl
theorem y541 : tsl Try.prog 130 = some 1 := by kernel_rfl
theorem y542 : tsz Try.prog 133 = some 1 := by kernel_rfl
theorem y543 : tagg Try.prog 133 = some false := by kernel_rfl
theorem y544 : tzc Try.prog 133 = some [M.d (D.v (Value.slice none 0 0))] := by kernel_rfl
theorem y545 : tz Try.prog 133 = some [M.d (D.v (Value.slice none 0 0))] := by kernel_rfl
theorem y546 : telem Try.prog 133 = some 40 := by kernel_rfl
theorem y547 : tel Try.prog 133 = some (2, 16, [M.d (D.v (Value.int IntKind.i64 0)), M.d (D.v (Value.int IntKind.i64 0))]) := by kernel_rfl
theorem y548 : isStr Try.prog 133 = false := by kernel_rfl
theorem y549 : isU8 Try.prog 133 = false := by kernel_rfl
theorem y550 : tbytes Try.prog 133 = false := by kernel_rfl
theorem y551 : tsl Try.prog 133 = some 2 := by kernel_rfl
theorem y552 : tsz Try.prog 136 = some 2 := by kernel_rfl
theorem y553 : tagg Try.prog 136 = some true := by kernel_rfl
theorem y554 : tzc Try.prog 136 = some [M.d (D.v (Value.int IntKind.i64 0)), M.d (D.v (Value.int IntKind.i64 0))] := by kernel_rfl
theorem y555 : tz Try.prog 136 = some [M.d (D.v (Value.int IntKind.i64 0)), M.d (D.v (Value.int IntKind.i64 0))] := by kernel_rfl
theorem y556 : tpl Try.prog 136 = some (Pl.fs [(0, 1), (1, 1)]) := by kernel_rfl
theorem y557 : tsl Try.prog 136 = none := by kernel_rfl
theorem y558 : cty Try.prog 9 136 = [none, none] := by kernel_rfl
theorem y559 : tfldt Try.prog 136 0 = some (0, 3) := by kernel_rfl
theorem y560 : tfld Try.prog 136 0 = some 0 := by kernel_rfl
theorem y561 : tfldt Try.prog 136 1 = some (1, 3) := by kernel_rfl
theorem y562 : tfld Try.prog 136 1 = some 1 := by kernel_rfl
theorem y563 : tsz Try.prog 137 = some 2 := by kernel_rfl
theorem y564 : tagg Try.prog 137 = some true := by kernel_rfl
theorem y565 : tzc Try.prog 137 = some [M.d (D.v (Value.int IntKind.i64 0)), M.d (D.v (Value.int IntKind.i64 0))] := by kernel_rfl
theorem y566 : tz Try.prog 137 = some [M.d (D.v (Value.int IntKind.i64 0)), M.d (D.v (Value.int IntKind.i64 0))] := by kernel_rfl
theorem y567 : tpl Try.prog 137 = some (Pl.fs [(0, 1), (1, 1)]) := by kernel_rfl
theorem y568 : tsl Try.prog 137 = none := by kernel_rfl
theorem y569 : cty Try.prog 9 137 = [none, none] := by kernel_rfl
theorem y570 : tfldt Try.prog 137 0 = some (0, 3) := by kernel_rfl
theorem y571 : tfld Try.prog 137 0 = some 0 := by kernel_rfl
theorem y572 : tfldt Try.prog 137 1 = some (1, 3) := by kernel_rfl
theorem y573 : tfld Try.prog 137 1 = some 1 := by kernel_rfl
theorem y574 : tsz Try.prog 138 = some 1 := by kernel_rfl
theorem y575 : tagg Try.prog 138 = some false := by kernel_rfl
theorem y576 : tzc Try.prog 138 = some [M.d (D.v (Value.slice none 0 0))] := by kernel_rfl
theorem y577 : tz Try.prog 138 = some [M.d (D.v (Value.slice none 0 0))] := by kernel_rfl
theorem y578 : telem Try.prog 138 = some 3 := by kernel_rfl
theorem y579 : tel Try.prog 138 = some (1, 8, [M.d (D.v (Value.int IntKind.i64 0))]) := by kernel_rfl
theorem y580 : isStr Try.prog 138 = false := by kernel_rfl
theorem y581 : isU8 Try.prog 138 = false := by kernel_rfl
theorem y582 : tbytes Try.prog 138 = false := by kernel_rfl
theorem y583 : tsl Try.prog 138 = some 1 := by kernel_rfl
theorem mix : Try.prog.follows .mixedOrders = true := by kernel_rfl
def tyf0 := And.intro y0 (And.intro y1 (And.intro y2 (And.intro y3 (And.intro y4 (And.intro y5 (And.intro y6 (And.intro y7 (And.intro y8 (And.intro y9 (And.intro y10 (And.intro y11 (And.intro y12 (And.intro y13 (And.intro y14 (y15)))))))))))))))
def tyf1 := And.intro y16 (And.intro y17 (And.intro y18 (And.intro y19 (And.intro y20 (And.intro y21 (And.intro y22 (And.intro y23 (And.intro y24 (And.intro y25 (And.intro y26 (And.intro y27 (And.intro y28 (And.intro y29 (And.intro y30 (y31)))))))))))))))
def tyf2 := And.intro y32 (And.intro y33 (And.intro y34 (And.intro y35 (And.intro y36 (And.intro y37 (And.intro y38 (And.intro y39 (And.intro y40 (And.intro y41 (And.intro y42 (And.intro y43 (And.intro y44 (And.intro y45 (And.intro y46 (y47)))))))))))))))
def tyf3 := And.intro y48 (And.intro y49 (And.intro y50 (And.intro y51 (And.intro y52 (And.intro y53 (And.intro y54 (And.intro y55 (And.intro y56 (And.intro y57 (And.intro y58 (And.intro y59 (And.intro y60 (And.intro y61 (And.intro y62 (y63)))))))))))))))
def tyf4 := And.intro y64 (And.intro y65 (And.intro y66 (And.intro y67 (And.intro y68 (And.intro y69 (And.intro y70 (And.intro y71 (And.intro y72 (And.intro y73 (And.intro y74 (And.intro y75 (And.intro y76 (And.intro y77 (And.intro y78 (y79)))))))))))))))
def tyf5 := And.intro y80 (And.intro y81 (And.intro y82 (And.intro y83 (And.intro y84 (And.intro y85 (And.intro y86 (And.intro y87 (And.intro y88 (And.intro y89 (And.intro y90 (And.intro y91 (And.intro y92 (And.intro y93 (And.intro y94 (y95)))))))))))))))
def tyf6 := And.intro y96 (And.intro y97 (And.intro y98 (And.intro y99 (And.intro y100 (And.intro y101 (And.intro y102 (And.intro y103 (And.intro y104 (And.intro y105 (And.intro y106 (And.intro y107 (And.intro y108 (And.intro y109 (And.intro y110 (y111)))))))))))))))
def tyf7 := And.intro y112 (And.intro y113 (And.intro y114 (And.intro y115 (And.intro y116 (And.intro y117 (And.intro y118 (And.intro y119 (And.intro y120 (And.intro y121 (And.intro y122 (And.intro y123 (And.intro y124 (And.intro y125 (And.intro y126 (y127)))))))))))))))
def tyf8 := And.intro y128 (And.intro y129 (And.intro y130 (And.intro y131 (And.intro y132 (And.intro y133 (And.intro y134 (And.intro y135 (And.intro y136 (And.intro y137 (And.intro y138 (And.intro y139 (And.intro y140 (And.intro y141 (And.intro y142 (y143)))))))))))))))
def tyf9 := And.intro y144 (And.intro y145 (And.intro y146 (And.intro y147 (And.intro y148 (And.intro y149 (And.intro y150 (And.intro y151 (And.intro y152 (And.intro y153 (And.intro y154 (And.intro y155 (And.intro y156 (And.intro y157 (And.intro y158 (y159)))))))))))))))
def tyf10 := And.intro y160 (And.intro y161 (And.intro y162 (And.intro y163 (And.intro y164 (And.intro y165 (And.intro y166 (And.intro y167 (And.intro y168 (And.intro y169 (And.intro y170 (And.intro y171 (And.intro y172 (And.intro y173 (And.intro y174 (y175)))))))))))))))
def tyf11 := And.intro y176 (And.intro y177 (And.intro y178 (And.intro y179 (And.intro y180 (And.intro y181 (And.intro y182 (And.intro y183 (And.intro y184 (And.intro y185 (And.intro y186 (And.intro y187 (And.intro y188 (And.intro y189 (And.intro y190 (y191)))))))))))))))
def tyf12 := And.intro y192 (And.intro y193 (And.intro y194 (And.intro y195 (And.intro y196 (And.intro y197 (And.intro y198 (And.intro y199 (And.intro y200 (And.intro y201 (And.intro y202 (And.intro y203 (And.intro y204 (And.intro y205 (And.intro y206 (y207)))))))))))))))
def tyf13 := And.intro y208 (And.intro y209 (And.intro y210 (And.intro y211 (And.intro y212 (And.intro y213 (And.intro y214 (And.intro y215 (And.intro y216 (And.intro y217 (And.intro y218 (And.intro y219 (And.intro y220 (And.intro y221 (And.intro y222 (y223)))))))))))))))
def tyf14 := And.intro y224 (And.intro y225 (And.intro y226 (And.intro y227 (And.intro y228 (And.intro y229 (And.intro y230 (And.intro y231 (And.intro y232 (And.intro y233 (And.intro y234 (And.intro y235 (And.intro y236 (And.intro y237 (And.intro y238 (y239)))))))))))))))
def tyf15 := And.intro y240 (And.intro y241 (And.intro y242 (And.intro y243 (And.intro y244 (And.intro y245 (And.intro y246 (And.intro y247 (And.intro y248 (And.intro y249 (And.intro y250 (And.intro y251 (And.intro y252 (And.intro y253 (And.intro y254 (y255)))))))))))))))
def tyf16 := And.intro y256 (And.intro y257 (And.intro y258 (And.intro y259 (And.intro y260 (And.intro y261 (And.intro y262 (And.intro y263 (And.intro y264 (And.intro y265 (And.intro y266 (And.intro y267 (And.intro y268 (And.intro y269 (And.intro y270 (y271)))))))))))))))
def tyf17 := And.intro y272 (And.intro y273 (And.intro y274 (And.intro y275 (And.intro y276 (And.intro y277 (And.intro y278 (And.intro y279 (And.intro y280 (And.intro y281 (And.intro y282 (And.intro y283 (And.intro y284 (And.intro y285 (And.intro y286 (y287)))))))))))))))
def tyf18 := And.intro y288 (And.intro y289 (And.intro y290 (And.intro y291 (And.intro y292 (And.intro y293 (And.intro y294 (And.intro y295 (And.intro y296 (And.intro y297 (And.intro y298 (And.intro y299 (And.intro y300 (And.intro y301 (And.intro y302 (y303)))))))))))))))
def tyf19 := And.intro y304 (And.intro y305 (And.intro y306 (And.intro y307 (And.intro y308 (And.intro y309 (And.intro y310 (And.intro y311 (And.intro y312 (And.intro y313 (And.intro y314 (And.intro y315 (And.intro y316 (And.intro y317 (And.intro y318 (y319)))))))))))))))
def tyf20 := And.intro y320 (And.intro y321 (And.intro y322 (And.intro y323 (And.intro y324 (And.intro y325 (And.intro y326 (And.intro y327 (And.intro y328 (And.intro y329 (And.intro y330 (And.intro y331 (And.intro y332 (And.intro y333 (And.intro y334 (y335)))))))))))))))
def tyf21 := And.intro y336 (And.intro y337 (And.intro y338 (And.intro y339 (And.intro y340 (And.intro y341 (And.intro y342 (And.intro y343 (And.intro y344 (And.intro y345 (And.intro y346 (And.intro y347 (And.intro y348 (And.intro y349 (And.intro y350 (y351)))))))))))))))
def tyf22 := And.intro y352 (And.intro y353 (And.intro y354 (And.intro y355 (And.intro y356 (And.intro y357 (And.intro y358 (And.intro y359 (And.intro y360 (And.intro y361 (And.intro y362 (And.intro y363 (And.intro y364 (And.intro y365 (And.intro y366 (y367)))))))))))))))
def tyf23 := And.intro y368 (And.intro y369 (And.intro y370 (And.intro y371 (And.intro y372 (And.intro y373 (And.intro y374 (And.intro y375 (And.intro y376 (And.intro y377 (And.intro y378 (And.intro y379 (And.intro y380 (And.intro y381 (And.intro y382 (y383)))))))))))))))
def tyf24 := And.intro y384 (And.intro y385 (And.intro y386 (And.intro y387 (And.intro y388 (And.intro y389 (And.intro y390 (And.intro y391 (And.intro y392 (And.intro y393 (And.intro y394 (And.intro y395 (And.intro y396 (And.intro y397 (And.intro y398 (y399)))))))))))))))
def tyf25 := And.intro y400 (And.intro y401 (And.intro y402 (And.intro y403 (And.intro y404 (And.intro y405 (And.intro y406 (And.intro y407 (And.intro y408 (And.intro y409 (And.intro y410 (And.intro y411 (And.intro y412 (And.intro y413 (And.intro y414 (y415)))))))))))))))
def tyf26 := And.intro y416 (And.intro y417 (And.intro y418 (And.intro y419 (And.intro y420 (And.intro y421 (And.intro y422 (And.intro y423 (And.intro y424 (And.intro y425 (And.intro y426 (And.intro y427 (And.intro y428 (And.intro y429 (And.intro y430 (y431)))))))))))))))
def tyf27 := And.intro y432 (And.intro y433 (And.intro y434 (And.intro y435 (And.intro y436 (And.intro y437 (And.intro y438 (And.intro y439 (And.intro y440 (And.intro y441 (And.intro y442 (And.intro y443 (And.intro y444 (And.intro y445 (And.intro y446 (y447)))))))))))))))
def tyf28 := And.intro y448 (And.intro y449 (And.intro y450 (And.intro y451 (And.intro y452 (And.intro y453 (And.intro y454 (And.intro y455 (And.intro y456 (And.intro y457 (And.intro y458 (And.intro y459 (And.intro y460 (And.intro y461 (And.intro y462 (y463)))))))))))))))
def tyf29 := And.intro y464 (And.intro y465 (And.intro y466 (And.intro y467 (And.intro y468 (And.intro y469 (And.intro y470 (And.intro y471 (And.intro y472 (And.intro y473 (And.intro y474 (And.intro y475 (And.intro y476 (And.intro y477 (And.intro y478 (y479)))))))))))))))
def tyf30 := And.intro y480 (And.intro y481 (And.intro y482 (And.intro y483 (And.intro y484 (And.intro y485 (And.intro y486 (And.intro y487 (And.intro y488 (And.intro y489 (And.intro y490 (And.intro y491 (And.intro y492 (And.intro y493 (And.intro y494 (y495)))))))))))))))
def tyf31 := And.intro y496 (And.intro y497 (And.intro y498 (And.intro y499 (And.intro y500 (And.intro y501 (And.intro y502 (And.intro y503 (And.intro y504 (And.intro y505 (And.intro y506 (And.intro y507 (And.intro y508 (And.intro y509 (And.intro y510 (y511)))))))))))))))
def tyf32 := And.intro y512 (And.intro y513 (And.intro y514 (And.intro y515 (And.intro y516 (And.intro y517 (And.intro y518 (And.intro y519 (And.intro y520 (And.intro y521 (And.intro y522 (And.intro y523 (And.intro y524 (And.intro y525 (And.intro y526 (y527)))))))))))))))
def tyf33 := And.intro y528 (And.intro y529 (And.intro y530 (And.intro y531 (And.intro y532 (And.intro y533 (And.intro y534 (And.intro y535 (And.intro y536 (And.intro y537 (And.intro y538 (And.intro y539 (And.intro y540 (And.intro y541 (And.intro y542 (y543)))))))))))))))
def tyf34 := And.intro y544 (And.intro y545 (And.intro y546 (And.intro y547 (And.intro y548 (And.intro y549 (And.intro y550 (And.intro y551 (And.intro y552 (And.intro y553 (And.intro y554 (And.intro y555 (And.intro y556 (And.intro y557 (And.intro y558 (y559)))))))))))))))
def tyf35 := And.intro y560 (And.intro y561 (And.intro y562 (And.intro y563 (And.intro y564 (And.intro y565 (And.intro y566 (And.intro y567 (And.intro y568 (And.intro y569 (And.intro y570 (And.intro y571 (And.intro y572 (And.intro y573 (And.intro y574 (y575)))))))))))))))
def tyf36 := And.intro y576 (And.intro y577 (And.intro y578 (And.intro y579 (And.intro y580 (And.intro y581 (And.intro y582 (y583)))))))
def tyf := And.intro tyf0 (And.intro tyf1 (And.intro tyf2 (And.intro tyf3 (And.intro tyf4 (And.intro tyf5 (And.intro tyf6 (And.intro tyf7 (And.intro tyf8 (And.intro tyf9 (And.intro tyf10 (And.intro tyf11 (And.intro tyf12 (And.intro tyf13 (And.intro tyf14 (And.intro tyf15 (And.intro tyf16 (And.intro tyf17 (And.intro tyf18 (And.intro tyf19 (And.intro tyf20 (And.intro tyf21 (And.intro tyf22 (And.intro tyf23 (And.intro tyf24 (And.intro tyf25 (And.intro tyf26 (And.intro tyf27 (And.intro tyf28 (And.intro tyf29 (And.intro tyf30 (And.intro tyf31 (And.intro tyf32 (And.intro tyf33 (And.intro tyf34 (And.intro tyf35 (tyf36))))))))))))))))))))))))))))))))))))
end Go.FaR2
