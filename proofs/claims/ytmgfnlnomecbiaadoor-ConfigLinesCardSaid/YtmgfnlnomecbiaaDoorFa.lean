import Derived.Test.YtmgfnlnomecbiaaDoorRows
import Derived.WalkKit
import Derived.Test.YtmgfnlnomecbiaaDoorAbs4
set_option linter.all false
/- What is known of the types of the program. -/
open Go.Proofs Go.Abs
namespace Go.Fa
theorem y0 : tsz Tryd.prog 2 = some 1 := by kernel_rfl
theorem y1 : tagg Tryd.prog 2 = some false := by kernel_rfl
theorem y2 : tzc Tryd.prog 2 = some [M.d (D.v (Value.int IntKind.i64 0))] := by kernel_rfl
theorem y3 : tz Tryd.prog 2 = some [M.d (D.v (Value.int IntKind.i64 0))] := by kernel_rfl
theorem y4 : tint Tryd.prog 2 = some IntKind.i64 := by kernel_rfl
theorem y5 : telem Tryd.prog 2 = none := by kernel_rfl
theorem y6 : isStr Tryd.prog 2 = false := by kernel_rfl
theorem y7 : isU8 Tryd.prog 2 = false := by kernel_rfl
theorem y8 : tbytes Tryd.prog 2 = false := by kernel_rfl
theorem y9 : tsl Tryd.prog 2 = none := by kernel_rfl
theorem y10 : btag Tryd.prog 2 = 0 := by kernel_rfl
theorem y11 : tsz Tryd.prog 3 = some 1 := by kernel_rfl
theorem y12 : tagg Tryd.prog 3 = some false := by kernel_rfl
theorem y13 : tzc Tryd.prog 3 = some [M.d (D.v (Value.int IntKind.i64 0))] := by kernel_rfl
theorem y14 : tz Tryd.prog 3 = some [M.d (D.v (Value.int IntKind.i64 0))] := by kernel_rfl
theorem y15 : tint Tryd.prog 3 = some IntKind.i64 := by kernel_rfl
theorem y16 : telem Tryd.prog 3 = none := by kernel_rfl
theorem y17 : isStr Tryd.prog 3 = false := by kernel_rfl
theorem y18 : isU8 Tryd.prog 3 = false := by kernel_rfl
theorem y19 : tbytes Tryd.prog 3 = false := by kernel_rfl
theorem y20 : tsl Tryd.prog 3 = none := by kernel_rfl
theorem y21 : btag Tryd.prog 3 = 0 := by kernel_rfl
theorem y22 : tsz Tryd.prog 4 = some 1 := by kernel_rfl
theorem y23 : tagg Tryd.prog 4 = some false := by kernel_rfl
theorem y24 : tzc Tryd.prog 4 = some [M.d (D.v (Value.bool false))] := by kernel_rfl
theorem y25 : tz Tryd.prog 4 = some [M.d (D.v (Value.bool false))] := by kernel_rfl
theorem y26 : tsl Tryd.prog 4 = none := by kernel_rfl
theorem y27 : btag Tryd.prog 4 = 0 := by kernel_rfl
theorem y28 : tsz Tryd.prog 5 = some 1 := by kernel_rfl
theorem y29 : tagg Tryd.prog 5 = some false := by kernel_rfl
theorem y30 : tzc Tryd.prog 5 = some [M.d (D.v (Value.int IntKind.u8 0))] := by kernel_rfl
theorem y31 : tz Tryd.prog 5 = some [M.d (D.v (Value.int IntKind.u8 0))] := by kernel_rfl
theorem y32 : tint Tryd.prog 5 = some IntKind.u8 := by kernel_rfl
theorem y33 : telem Tryd.prog 5 = none := by kernel_rfl
theorem y34 : isStr Tryd.prog 5 = false := by kernel_rfl
theorem y35 : isU8 Tryd.prog 5 = true := by kernel_rfl
theorem y36 : tbytes Tryd.prog 5 = false := by kernel_rfl
theorem y37 : tsl Tryd.prog 5 = none := by kernel_rfl
theorem y38 : btag Tryd.prog 5 = 0 := by kernel_rfl
theorem y39 : tsz Tryd.prog 9 = some 1 := by kernel_rfl
theorem y40 : tagg Tryd.prog 9 = some false := by kernel_rfl
theorem y41 : tzc Tryd.prog 9 = some [strM []] := by kernel_rfl
theorem y42 : tz Tryd.prog 9 = some [strM []] := by kernel_rfl
theorem y43 : telem Tryd.prog 9 = none := by kernel_rfl
theorem y44 : isStr Tryd.prog 9 = true := by kernel_rfl
theorem y45 : isU8 Tryd.prog 9 = false := by kernel_rfl
theorem y46 : tbytes Tryd.prog 9 = false := by kernel_rfl
theorem y47 : tsl Tryd.prog 9 = none := by kernel_rfl
theorem y48 : btag Tryd.prog 9 = 0 := by kernel_rfl
theorem y49 : tsz Tryd.prog 22 = some 1 := by kernel_rfl
theorem y50 : tagg Tryd.prog 22 = some false := by kernel_rfl
theorem y51 : tzc Tryd.prog 22 = some [M.d (D.v (Value.slice none 0 0))] := by kernel_rfl
theorem y52 : tz Tryd.prog 22 = some [M.d (D.v (Value.slice none 0 0))] := by kernel_rfl
theorem y53 : telem Tryd.prog 22 = some 31 := by kernel_rfl
theorem y54 : tel Tryd.prog 22 = some (6, 48, [M.d (D.v (Value.int IntKind.i64 0)), M.d (D.v (Value.int IntKind.i64 0)), M.d (D.v (Value.int IntKind.i64 0)), M.d (D.v (Value.int IntKind.i64 0)), M.d (D.v (Value.int IntKind.i64 0)), M.d (D.v (Value.int IntKind.i64 0))]) := by kernel_rfl
theorem y55 : isStr Tryd.prog 22 = false := by kernel_rfl
theorem y56 : isU8 Tryd.prog 22 = false := by kernel_rfl
theorem y57 : tbytes Tryd.prog 22 = false := by kernel_rfl
theorem y58 : tsl Tryd.prog 22 = some 6 := by kernel_rfl
theorem y59 : btag Tryd.prog 22 = 0 := by kernel_rfl
theorem y60 : tsz Tryd.prog 23 = some 1 := by kernel_rfl
theorem y61 : tagg Tryd.prog 23 = some false := by kernel_rfl
theorem y62 : tzc Tryd.prog 23 = some [M.d (D.v (Value.slice none 0 0))] := by kernel_rfl
theorem y63 : tz Tryd.prog 23 = some [M.d (D.v (Value.slice none 0 0))] := by kernel_rfl
theorem y64 : telem Tryd.prog 23 = some 42 := by kernel_rfl
theorem y65 : tel Tryd.prog 23 = some (2, 16, [M.d (D.v (Value.int IntKind.i64 0)), M.d (D.v (Value.int IntKind.i64 0))]) := by kernel_rfl
theorem y66 : isStr Tryd.prog 23 = false := by kernel_rfl
theorem y67 : isU8 Tryd.prog 23 = false := by kernel_rfl
theorem y68 : tbytes Tryd.prog 23 = false := by kernel_rfl
theorem y69 : tsl Tryd.prog 23 = some 2 := by kernel_rfl
theorem y70 : btag Tryd.prog 23 = 0 := by kernel_rfl
theorem y71 : tsz Tryd.prog 25 = some 3 := by kernel_rfl
theorem y72 : tagg Tryd.prog 25 = some true := by kernel_rfl
theorem y73 : tzc Tryd.prog 25 = some [M.d (D.v (Value.slice none 0 0)), M.d (D.v (Value.bool false)), M.d (D.v (Value.slice none 0 0))] := by kernel_rfl
theorem y74 : tz Tryd.prog 25 = some [M.d (D.v (Value.slice none 0 0)), M.d (D.v (Value.bool false)), M.d (D.v (Value.slice none 0 0))] := by kernel_rfl
theorem y75 : tpl Tryd.prog 25 = some (Pl.fs [(0, 1), (1, 1), (2, 1)]) := by kernel_rfl
theorem y76 : tsl Tryd.prog 25 = some 6 := by kernel_rfl
theorem y77 : btag Tryd.prog 25 = 0 := by kernel_rfl
theorem y78 : cty Tryd.prog 9 25 = [some 6, none, some 2] := by kernel_rfl
theorem y79 : tfldt Tryd.prog 25 0 = some (0, 22) := by kernel_rfl
theorem y80 : tfld Tryd.prog 25 0 = some 0 := by kernel_rfl
theorem y81 : tfldt Tryd.prog 25 1 = some (1, 4) := by kernel_rfl
theorem y82 : tfld Tryd.prog 25 1 = some 1 := by kernel_rfl
theorem y83 : tfldt Tryd.prog 25 2 = some (2, 23) := by kernel_rfl
theorem y84 : tfld Tryd.prog 25 2 = some 2 := by kernel_rfl
theorem y85 : tsz Tryd.prog 29 = some 1 := by kernel_rfl
theorem y86 : tagg Tryd.prog 29 = some false := by kernel_rfl
theorem y87 : tsl Tryd.prog 29 = none := by kernel_rfl
theorem y88 : btag Tryd.prog 29 = 0 := by kernel_rfl
theorem y89 : tsz Tryd.prog 31 = some 6 := by kernel_rfl
theorem y90 : tagg Tryd.prog 31 = some true := by kernel_rfl
theorem y91 : tzc Tryd.prog 31 = some [M.d (D.v (Value.int IntKind.i64 0)), M.d (D.v (Value.int IntKind.i64 0)), M.d (D.v (Value.int IntKind.i64 0)), M.d (D.v (Value.int IntKind.i64 0)), M.d (D.v (Value.int IntKind.i64 0)), M.d (D.v (Value.int IntKind.i64 0))] := by kernel_rfl
theorem y92 : tz Tryd.prog 31 = some [M.d (D.v (Value.int IntKind.i64 0)), M.d (D.v (Value.int IntKind.i64 0)), M.d (D.v (Value.int IntKind.i64 0)), M.d (D.v (Value.int IntKind.i64 0)), M.d (D.v (Value.int IntKind.i64 0)), M.d (D.v (Value.int IntKind.i64 0))] := by kernel_rfl
theorem y93 : tpl Tryd.prog 31 = some (Pl.fs [(0, 1), (1, 1), (2, 1), (3, 1), (4, 1), (5, 1)]) := by kernel_rfl
theorem y94 : tsl Tryd.prog 31 = none := by kernel_rfl
theorem y95 : btag Tryd.prog 31 = 0 := by kernel_rfl
theorem y96 : cty Tryd.prog 9 31 = [none, none, none, none, none, none] := by kernel_rfl
theorem y97 : tfldt Tryd.prog 31 0 = some (0, 3) := by kernel_rfl
theorem y98 : tfld Tryd.prog 31 0 = some 0 := by kernel_rfl
theorem y99 : tfldt Tryd.prog 31 1 = some (1, 3) := by kernel_rfl
theorem y100 : tfld Tryd.prog 31 1 = some 1 := by kernel_rfl
theorem y101 : tfldt Tryd.prog 31 2 = some (2, 3) := by kernel_rfl
theorem y102 : tfld Tryd.prog 31 2 = some 2 := by kernel_rfl
theorem y103 : tfldt Tryd.prog 31 3 = some (3, 3) := by kernel_rfl
theorem y104 : tfld Tryd.prog 31 3 = some 3 := by kernel_rfl
theorem y105 : tfldt Tryd.prog 31 4 = some (4, 3) := by kernel_rfl
theorem y106 : tfld Tryd.prog 31 4 = some 4 := by kernel_rfl
theorem y107 : tfldt Tryd.prog 31 5 = some (5, 3) := by kernel_rfl
theorem y108 : tfld Tryd.prog 31 5 = some 5 := by kernel_rfl
theorem y109 : tsz Tryd.prog 33 = some 1 := by kernel_rfl
theorem y110 : tagg Tryd.prog 33 = some false := by kernel_rfl
theorem y111 : tzc Tryd.prog 33 = some [M.d (D.v (Value.slice none 0 0))] := by kernel_rfl
theorem y112 : tz Tryd.prog 33 = some [M.d (D.v (Value.slice none 0 0))] := by kernel_rfl
theorem y113 : telem Tryd.prog 33 = some 5 := by kernel_rfl
theorem y114 : tel Tryd.prog 33 = some (1, 1, [M.d (D.v (Value.int IntKind.u8 0))]) := by kernel_rfl
theorem y115 : isStr Tryd.prog 33 = false := by kernel_rfl
theorem y116 : isU8 Tryd.prog 33 = false := by kernel_rfl
theorem y117 : tbytes Tryd.prog 33 = true := by kernel_rfl
theorem y118 : tsl Tryd.prog 33 = some 1 := by kernel_rfl
theorem y119 : btag Tryd.prog 33 = 0 := by kernel_rfl
theorem y120 : tsz Tryd.prog 37 = some 1 := by kernel_rfl
theorem y121 : tagg Tryd.prog 37 = some false := by kernel_rfl
theorem y122 : tzc Tryd.prog 37 = some [M.d (D.v (Value.int IntKind.i64 0))] := by kernel_rfl
theorem y123 : tz Tryd.prog 37 = some [M.d (D.v (Value.int IntKind.i64 0))] := by kernel_rfl
theorem y124 : tint Tryd.prog 37 = some IntKind.i64 := by kernel_rfl
theorem y125 : telem Tryd.prog 37 = none := by kernel_rfl
theorem y126 : isStr Tryd.prog 37 = false := by kernel_rfl
theorem y127 : isU8 Tryd.prog 37 = false := by kernel_rfl
theorem y128 : tbytes Tryd.prog 37 = false := by kernel_rfl
theorem y129 : tsl Tryd.prog 37 = none := by kernel_rfl
theorem y130 : btag Tryd.prog 37 = 0 := by kernel_rfl
theorem y131 : tsz Tryd.prog 42 = some 2 := by kernel_rfl
theorem y132 : tagg Tryd.prog 42 = some true := by kernel_rfl
theorem y133 : tzc Tryd.prog 42 = some [M.d (D.v (Value.int IntKind.i64 0)), M.d (D.v (Value.int IntKind.i64 0))] := by kernel_rfl
theorem y134 : tz Tryd.prog 42 = some [M.d (D.v (Value.int IntKind.i64 0)), M.d (D.v (Value.int IntKind.i64 0))] := by kernel_rfl
theorem y135 : tpl Tryd.prog 42 = some (Pl.fs [(0, 1), (1, 1)]) := by kernel_rfl
theorem y136 : tsl Tryd.prog 42 = none := by kernel_rfl
theorem y137 : btag Tryd.prog 42 = 0 := by kernel_rfl
theorem y138 : cty Tryd.prog 9 42 = [none, none] := by kernel_rfl
theorem y139 : tfldt Tryd.prog 42 0 = some (0, 3) := by kernel_rfl
theorem y140 : tfld Tryd.prog 42 0 = some 0 := by kernel_rfl
theorem y141 : tfldt Tryd.prog 42 1 = some (1, 3) := by kernel_rfl
theorem y142 : tfld Tryd.prog 42 1 = some 1 := by kernel_rfl
theorem y143 : tsz Tryd.prog 48 = some 1 := by kernel_rfl
theorem y144 : tagg Tryd.prog 48 = some false := by kernel_rfl
theorem y145 : tzc Tryd.prog 48 = some [M.d (D.v (Value.slice none 0 0))] := by kernel_rfl
theorem y146 : tz Tryd.prog 48 = some [M.d (D.v (Value.slice none 0 0))] := by kernel_rfl
theorem y147 : telem Tryd.prog 48 = some 92 := by kernel_rfl
theorem y148 : tel Tryd.prog 48 = some (2, 16, [M.d (D.v (Value.int IntKind.i64 0)), M.d (D.v (Value.int IntKind.i64 0))]) := by kernel_rfl
theorem y149 : isStr Tryd.prog 48 = false := by kernel_rfl
theorem y150 : isU8 Tryd.prog 48 = false := by kernel_rfl
theorem y151 : tbytes Tryd.prog 48 = false := by kernel_rfl
theorem y152 : tsl Tryd.prog 48 = some 2 := by kernel_rfl
theorem y153 : btag Tryd.prog 48 = 0 := by kernel_rfl
theorem y154 : tsz Tryd.prog 50 = some 2 := by kernel_rfl
theorem y155 : tagg Tryd.prog 50 = some true := by kernel_rfl
theorem y156 : tzc Tryd.prog 50 = some [M.d (D.v (Value.int IntKind.i64 0)), M.d (D.v (Value.int IntKind.i64 0))] := by kernel_rfl
theorem y157 : tz Tryd.prog 50 = some [M.d (D.v (Value.int IntKind.i64 0)), M.d (D.v (Value.int IntKind.i64 0))] := by kernel_rfl
theorem y158 : tpl Tryd.prog 50 = some (Pl.fs [(0, 1), (1, 1)]) := by kernel_rfl
theorem y159 : tsl Tryd.prog 50 = none := by kernel_rfl
theorem y160 : btag Tryd.prog 50 = 0 := by kernel_rfl
theorem y161 : cty Tryd.prog 9 50 = [none, none] := by kernel_rfl
theorem y162 : tfldt Tryd.prog 50 0 = some (0, 3) := by kernel_rfl
theorem y163 : tfld Tryd.prog 50 0 = some 0 := by kernel_rfl
theorem y164 : tfldt Tryd.prog 50 1 = some (1, 3) := by kernel_rfl
theorem y165 : tfld Tryd.prog 50 1 = some 1 := by kernel_rfl
theorem y166 : tsz Tryd.prog 51 = some 8 := by kernel_rfl
theorem y167 : tagg Tryd.prog 51 = some true := by kernel_rfl
theorem y168 : tzc Tryd.prog 51 = some [M.d (D.v (Value.int IntKind.i64 0)), M.d (D.v (Value.int IntKind.i64 0)), M.d (D.v (Value.int IntKind.i64 0)), M.d (D.v (Value.int IntKind.i64 0)), M.d (D.v (Value.int IntKind.i64 0)), M.d (D.v (Value.int IntKind.i64 0)), M.d (D.v (Value.int IntKind.i64 0)), M.d (D.v (Value.int IntKind.i64 0))] := by kernel_rfl
theorem y169 : tz Tryd.prog 51 = some [M.d (D.v (Value.int IntKind.i64 0)), M.d (D.v (Value.int IntKind.i64 0)), M.d (D.v (Value.int IntKind.i64 0)), M.d (D.v (Value.int IntKind.i64 0)), M.d (D.v (Value.int IntKind.i64 0)), M.d (D.v (Value.int IntKind.i64 0)), M.d (D.v (Value.int IntKind.i64 0)), M.d (D.v (Value.int IntKind.i64 0))] := by kernel_rfl
theorem y170 : tpl Tryd.prog 51 = some (Pl.es 2) := by kernel_rfl
theorem y171 : tarr Tryd.prog 51 = some (4, 50) := by kernel_rfl
theorem y172 : tsl Tryd.prog 51 = none := by kernel_rfl
theorem y173 : btag Tryd.prog 51 = 0 := by kernel_rfl
theorem y174 : cty Tryd.prog 9 51 = [none, none, none, none, none, none, none, none] := by kernel_rfl
theorem y175 : tsz Tryd.prog 53 = some 16 := by kernel_rfl
theorem y176 : tagg Tryd.prog 53 = some true := by kernel_rfl
theorem y177 : tzc Tryd.prog 53 = some [M.d (D.v (Value.slice none 0 0)), M.d (D.v (Value.int IntKind.i64 0)), M.d (D.v (Value.int IntKind.i64 0)), M.d (D.v (Value.int IntKind.i64 0)), M.d (D.v (Value.int IntKind.i64 0)), M.d (D.v (Value.int IntKind.i64 0)), M.d (D.v (Value.int IntKind.i64 0)), M.d (D.v (Value.int IntKind.i64 0)), M.d (D.v (Value.int IntKind.i64 0)), M.d (D.v (Value.int IntKind.i64 0)), M.d (D.v (Value.int IntKind.i64 0)), M.d (D.v (Value.int IntKind.i64 0)), M.d (D.v (Value.int IntKind.i64 0)), M.d (D.v (Value.int IntKind.i64 0)), M.d (D.v (Value.int IntKind.i64 0)), M.d (D.v (Value.int IntKind.i64 0))] := by kernel_rfl
theorem y178 : tz Tryd.prog 53 = some [M.d (D.v (Value.slice none 0 0)), M.d (D.v (Value.int IntKind.i64 0)), M.d (D.v (Value.int IntKind.i64 0)), M.d (D.v (Value.int IntKind.i64 0)), M.d (D.v (Value.int IntKind.i64 0)), M.d (D.v (Value.int IntKind.i64 0)), M.d (D.v (Value.int IntKind.i64 0)), M.d (D.v (Value.int IntKind.i64 0)), M.d (D.v (Value.int IntKind.i64 0)), M.d (D.v (Value.int IntKind.i64 0)), M.d (D.v (Value.int IntKind.i64 0)), M.d (D.v (Value.int IntKind.i64 0)), M.d (D.v (Value.int IntKind.i64 0)), M.d (D.v (Value.int IntKind.i64 0)), M.d (D.v (Value.int IntKind.i64 0)), M.d (D.v (Value.int IntKind.i64 0))] := by kernel_rfl
theorem y179 : tpl Tryd.prog 53 = some (Pl.fs [(0, 1), (1, 1), (2, 1), (3, 1), (4, 1), (5, 1), (6, 8), (14, 1), (15, 1)]) := by kernel_rfl
theorem y180 : tsl Tryd.prog 53 = some 2 := by kernel_rfl
theorem y181 : btag Tryd.prog 53 = 0 := by kernel_rfl
theorem y182 : cty Tryd.prog 9 53 = [some 2, none, none, none, none, none, none, none, none, none, none, none, none, none, none, none] := by kernel_rfl
theorem y183 : tfldt Tryd.prog 53 0 = some (0, 48) := by kernel_rfl
theorem y184 : tfld Tryd.prog 53 0 = some 0 := by kernel_rfl
theorem y185 : tfldt Tryd.prog 53 1 = some (1, 3) := by kernel_rfl
theorem y186 : tfld Tryd.prog 53 1 = some 1 := by kernel_rfl
theorem y187 : tfldt Tryd.prog 53 2 = some (2, 3) := by kernel_rfl
theorem y188 : tfld Tryd.prog 53 2 = some 2 := by kernel_rfl
theorem y189 : tfldt Tryd.prog 53 3 = some (3, 3) := by kernel_rfl
theorem y190 : tfld Tryd.prog 53 3 = some 3 := by kernel_rfl
theorem y191 : tfldt Tryd.prog 53 4 = some (4, 3) := by kernel_rfl
theorem y192 : tfld Tryd.prog 53 4 = some 4 := by kernel_rfl
theorem y193 : tfldt Tryd.prog 53 5 = some (5, 3) := by kernel_rfl
theorem y194 : tfld Tryd.prog 53 5 = some 5 := by kernel_rfl
theorem y195 : tfldt Tryd.prog 53 6 = some (6, 51) := by kernel_rfl
theorem y196 : tfld Tryd.prog 53 6 = some 6 := by kernel_rfl
theorem y197 : tfldt Tryd.prog 53 7 = some (14, 3) := by kernel_rfl
theorem y198 : tfld Tryd.prog 53 7 = some 14 := by kernel_rfl
theorem y199 : tfldt Tryd.prog 53 8 = some (15, 3) := by kernel_rfl
theorem y200 : tfld Tryd.prog 53 8 = some 15 := by kernel_rfl
theorem y201 : tsz Tryd.prog 62 = some 1 := by kernel_rfl
theorem y202 : tagg Tryd.prog 62 = some false := by kernel_rfl
theorem y203 : tzc Tryd.prog 62 = some [M.d (D.v (Value.slice none 0 0))] := by kernel_rfl
theorem y204 : tz Tryd.prog 62 = some [M.d (D.v (Value.slice none 0 0))] := by kernel_rfl
theorem y205 : telem Tryd.prog 62 = some 9 := by kernel_rfl
theorem y206 : tel Tryd.prog 62 = some (1, 16, [strM []]) := by kernel_rfl
theorem y207 : isStr Tryd.prog 62 = false := by kernel_rfl
theorem y208 : isU8 Tryd.prog 62 = false := by kernel_rfl
theorem y209 : tbytes Tryd.prog 62 = false := by kernel_rfl
theorem y210 : tsl Tryd.prog 62 = some 1 := by kernel_rfl
theorem y211 : btag Tryd.prog 62 = 0 := by kernel_rfl
theorem y212 : tsz Tryd.prog 72 = some 1 := by kernel_rfl
theorem y213 : tagg Tryd.prog 72 = some false := by kernel_rfl
theorem y214 : tzc Tryd.prog 72 = some [M.d (D.v (Value.pointer none))] := by kernel_rfl
theorem y215 : tz Tryd.prog 72 = some [M.d (D.v (Value.pointer none))] := by kernel_rfl
theorem y216 : tsl Tryd.prog 72 = none := by kernel_rfl
theorem y217 : btag Tryd.prog 72 = 0 := by kernel_rfl
theorem y218 : tsz Tryd.prog 74 = some 1 := by kernel_rfl
theorem y219 : tagg Tryd.prog 74 = some false := by kernel_rfl
theorem y220 : tzc Tryd.prog 74 = some [M.d (D.v (Value.pointer none))] := by kernel_rfl
theorem y221 : tz Tryd.prog 74 = some [M.d (D.v (Value.pointer none))] := by kernel_rfl
theorem y222 : tsl Tryd.prog 74 = none := by kernel_rfl
theorem y223 : btag Tryd.prog 74 = 0 := by kernel_rfl
theorem y224 : tsz Tryd.prog 76 = some 2 := by kernel_rfl
theorem y225 : tagg Tryd.prog 76 = some true := by kernel_rfl
theorem y226 : tzc Tryd.prog 76 = some [M.d (D.v (Value.pointer none)), M.d (D.v (Value.slice none 0 0))] := by kernel_rfl
theorem y227 : tz Tryd.prog 76 = some [M.d (D.v (Value.pointer none)), M.d (D.v (Value.slice none 0 0))] := by kernel_rfl
theorem y228 : tpl Tryd.prog 76 = some (Pl.fs [(0, 1), (1, 1)]) := by kernel_rfl
theorem y229 : tsl Tryd.prog 76 = none := by kernel_rfl
theorem y230 : btag Tryd.prog 76 = 76 := by kernel_rfl
theorem y231 : cty Tryd.prog 9 76 = [none, some 1] := by kernel_rfl
theorem y232 : tfldt Tryd.prog 76 0 = some (0, 74) := by kernel_rfl
theorem y233 : tfld Tryd.prog 76 0 = some 0 := by kernel_rfl
theorem y234 : tfldt Tryd.prog 76 1 = some (1, 33) := by kernel_rfl
theorem y235 : tfld Tryd.prog 76 1 = some 1 := by kernel_rfl
theorem y236 : tsz Tryd.prog 78 = some 4 := by kernel_rfl
theorem y237 : tagg Tryd.prog 78 = some true := by kernel_rfl
theorem y238 : tzc Tryd.prog 78 = some [strM [], M.d (D.v (Value.bool false)), M.d (D.v (Value.bool false)), M.d (D.v (Value.bool false))] := by kernel_rfl
theorem y239 : tz Tryd.prog 78 = some [strM [], M.d (D.v (Value.bool false)), M.d (D.v (Value.bool false)), M.d (D.v (Value.bool false))] := by kernel_rfl
theorem y240 : tpl Tryd.prog 78 = some (Pl.fs [(0, 1), (1, 1), (2, 1), (3, 1)]) := by kernel_rfl
theorem y241 : tsl Tryd.prog 78 = none := by kernel_rfl
theorem y242 : btag Tryd.prog 78 = 0 := by kernel_rfl
theorem y243 : cty Tryd.prog 9 78 = [none, none, none, none] := by kernel_rfl
theorem y244 : tfldt Tryd.prog 78 0 = some (0, 9) := by kernel_rfl
theorem y245 : tfld Tryd.prog 78 0 = some 0 := by kernel_rfl
theorem y246 : tfldt Tryd.prog 78 1 = some (1, 4) := by kernel_rfl
theorem y247 : tfld Tryd.prog 78 1 = some 1 := by kernel_rfl
theorem y248 : tfldt Tryd.prog 78 2 = some (2, 4) := by kernel_rfl
theorem y249 : tfld Tryd.prog 78 2 = some 2 := by kernel_rfl
theorem y250 : tfldt Tryd.prog 78 3 = some (3, 4) := by kernel_rfl
theorem y251 : tfld Tryd.prog 78 3 = some 3 := by kernel_rfl
theorem y252 : tsz Tryd.prog 79 = some 1 := by kernel_rfl
theorem y253 : tagg Tryd.prog 79 = some false := by kernel_rfl
theorem y254 : tzc Tryd.prog 79 = some [M.d (D.v (Value.slice none 0 0))] := by kernel_rfl
theorem y255 : tz Tryd.prog 79 = some [M.d (D.v (Value.slice none 0 0))] := by kernel_rfl
theorem y256 : telem Tryd.prog 79 = some 78 := by kernel_rfl
theorem y257 : tel Tryd.prog 79 = some (4, 24, [strM [], M.d (D.v (Value.bool false)), M.d (D.v (Value.bool false)), M.d (D.v (Value.bool false))]) := by kernel_rfl
theorem y258 : isStr Tryd.prog 79 = false := by kernel_rfl
theorem y259 : isU8 Tryd.prog 79 = false := by kernel_rfl
theorem y260 : tbytes Tryd.prog 79 = false := by kernel_rfl
theorem y261 : tsl Tryd.prog 79 = some 4 := by kernel_rfl
theorem y262 : btag Tryd.prog 79 = 0 := by kernel_rfl
theorem y263 : tsz Tryd.prog 82 = some 1 := by kernel_rfl
theorem y264 : tagg Tryd.prog 82 = some false := by kernel_rfl
theorem y265 : tsl Tryd.prog 82 = none := by kernel_rfl
theorem y266 : btag Tryd.prog 82 = 0 := by kernel_rfl
theorem y267 : tsz Tryd.prog 92 = some 2 := by kernel_rfl
theorem y268 : tagg Tryd.prog 92 = some true := by kernel_rfl
theorem y269 : tzc Tryd.prog 92 = some [M.d (D.v (Value.int IntKind.i64 0)), M.d (D.v (Value.int IntKind.i64 0))] := by kernel_rfl
theorem y270 : tz Tryd.prog 92 = some [M.d (D.v (Value.int IntKind.i64 0)), M.d (D.v (Value.int IntKind.i64 0))] := by kernel_rfl
theorem y271 : tpl Tryd.prog 92 = some (Pl.fs [(0, 1), (1, 1)]) := by kernel_rfl
theorem y272 : tsl Tryd.prog 92 = none := by kernel_rfl
theorem y273 : btag Tryd.prog 92 = 0 := by kernel_rfl
theorem y274 : cty Tryd.prog 9 92 = [none, none] := by kernel_rfl
theorem y275 : tfldt Tryd.prog 92 0 = some (0, 3) := by kernel_rfl
theorem y276 : tfld Tryd.prog 92 0 = some 0 := by kernel_rfl
theorem y277 : tfldt Tryd.prog 92 1 = some (1, 3) := by kernel_rfl
theorem y278 : tfld Tryd.prog 92 1 = some 1 := by kernel_rfl
theorem y279 : tsz Tryd.prog 97 = some 1 := by kernel_rfl
theorem y280 : tagg Tryd.prog 97 = some false := by kernel_rfl
theorem y281 : tzc Tryd.prog 97 = some [M.d (D.v (Value.pointer none))] := by kernel_rfl
theorem y282 : tz Tryd.prog 97 = some [M.d (D.v (Value.pointer none))] := by kernel_rfl
theorem y283 : tsl Tryd.prog 97 = none := by kernel_rfl
theorem y284 : btag Tryd.prog 97 = 0 := by kernel_rfl
theorem y285 : tsz Tryd.prog 101 = some 1 := by kernel_rfl
theorem y286 : tagg Tryd.prog 101 = some false := by kernel_rfl
theorem y287 : tzc Tryd.prog 101 = some [M.d (D.v (Value.pointer none))] := by kernel_rfl
theorem y288 : tz Tryd.prog 101 = some [M.d (D.v (Value.pointer none))] := by kernel_rfl
theorem y289 : tsl Tryd.prog 101 = none := by kernel_rfl
theorem y290 : btag Tryd.prog 101 = 0 := by kernel_rfl
theorem y291 : tsz Tryd.prog 102 = some 1 := by kernel_rfl
theorem y292 : tagg Tryd.prog 102 = some false := by kernel_rfl
theorem y293 : tzc Tryd.prog 102 = some [M.d (D.v (Value.slice none 0 0))] := by kernel_rfl
theorem y294 : tz Tryd.prog 102 = some [M.d (D.v (Value.slice none 0 0))] := by kernel_rfl
theorem y295 : telem Tryd.prog 102 = some 62 := by kernel_rfl
theorem y296 : tel Tryd.prog 102 = some (1, 24, [M.d (D.v (Value.slice none 0 0))]) := by kernel_rfl
theorem y297 : isStr Tryd.prog 102 = false := by kernel_rfl
theorem y298 : isU8 Tryd.prog 102 = false := by kernel_rfl
theorem y299 : tbytes Tryd.prog 102 = false := by kernel_rfl
theorem y300 : tsl Tryd.prog 102 = some 1 := by kernel_rfl
theorem y301 : btag Tryd.prog 102 = 0 := by kernel_rfl
theorem y302 : tsz Tryd.prog 104 = some 2 := by kernel_rfl
theorem y303 : tagg Tryd.prog 104 = some true := by kernel_rfl
theorem y304 : tzc Tryd.prog 104 = some [M.d (D.v (Value.slice none 0 0)), M.d (D.v (Value.bool false))] := by kernel_rfl
theorem y305 : tz Tryd.prog 104 = some [M.d (D.v (Value.slice none 0 0)), M.d (D.v (Value.bool false))] := by kernel_rfl
theorem y306 : tpl Tryd.prog 104 = some (Pl.fs [(0, 1), (1, 1)]) := by kernel_rfl
theorem y307 : tsl Tryd.prog 104 = some 1 := by kernel_rfl
theorem y308 : btag Tryd.prog 104 = 0 := by kernel_rfl
theorem y309 : cty Tryd.prog 9 104 = [some 1, none] := by kernel_rfl
theorem y310 : tfldt Tryd.prog 104 0 = some (0, 102) := by kernel_rfl
theorem y311 : tfld Tryd.prog 104 0 = some 0 := by kernel_rfl
theorem y312 : tfldt Tryd.prog 104 1 = some (1, 4) := by kernel_rfl
theorem y313 : tfld Tryd.prog 104 1 = some 1 := by kernel_rfl
theorem y314 : tsz Tryd.prog 109 = some 1 := by kernel_rfl
theorem y315 : tagg Tryd.prog 109 = some false := by kernel_rfl
theorem y316 : tzc Tryd.prog 109 = some [M.d (D.v (Value.slice none 0 0))] := by kernel_rfl
theorem y317 : tz Tryd.prog 109 = some [M.d (D.v (Value.slice none 0 0))] := by kernel_rfl
theorem y318 : telem Tryd.prog 109 = some 3 := by kernel_rfl
theorem y319 : tel Tryd.prog 109 = some (1, 8, [M.d (D.v (Value.int IntKind.i64 0))]) := by kernel_rfl
theorem y320 : isStr Tryd.prog 109 = false := by kernel_rfl
theorem y321 : isU8 Tryd.prog 109 = false := by kernel_rfl
theorem y322 : tbytes Tryd.prog 109 = false := by kernel_rfl
theorem y323 : tsl Tryd.prog 109 = some 1 := by kernel_rfl
theorem y324 : btag Tryd.prog 109 = 0 := by kernel_rfl
theorem y325 : tsz Tryd.prog 117 = some 1 := by kernel_rfl
theorem y326 : tagg Tryd.prog 117 = some false := by kernel_rfl
theorem y327 : tzc Tryd.prog 117 = some [M.d (D.v (Value.pointer none))] := by kernel_rfl
theorem y328 : tz Tryd.prog 117 = some [M.d (D.v (Value.pointer none))] := by kernel_rfl
theorem y329 : tsl Tryd.prog 117 = none := by kernel_rfl
theorem y330 : btag Tryd.prog 117 = 0 := by kernel_rfl
theorem y331 : tsz Tryd.prog 119 = some 1 := by kernel_rfl
theorem y332 : tagg Tryd.prog 119 = some false := by kernel_rfl
theorem y333 : tzc Tryd.prog 119 = some [M.d (D.v (Value.int IntKind.u64 0))] := by kernel_rfl
theorem y334 : tz Tryd.prog 119 = some [M.d (D.v (Value.int IntKind.u64 0))] := by kernel_rfl
theorem y335 : tint Tryd.prog 119 = some IntKind.u64 := by kernel_rfl
theorem y336 : telem Tryd.prog 119 = none := by kernel_rfl
theorem y337 : isStr Tryd.prog 119 = false := by kernel_rfl
theorem y338 : isU8 Tryd.prog 119 = false := by kernel_rfl
theorem y339 : tbytes Tryd.prog 119 = false := by kernel_rfl
theorem y340 : tsl Tryd.prog 119 = none := by kernel_rfl
theorem y341 : btag Tryd.prog 119 = 0 := by kernel_rfl
theorem y342 : tsz Tryd.prog 121 = some 1 := by kernel_rfl
theorem y343 : tagg Tryd.prog 121 = some false := by kernel_rfl
theorem y344 : tzc Tryd.prog 121 = some [M.d (D.v (Value.pointer none))] := by kernel_rfl
theorem y345 : tz Tryd.prog 121 = some [M.d (D.v (Value.pointer none))] := by kernel_rfl
theorem y346 : tsl Tryd.prog 121 = none := by kernel_rfl
theorem y347 : btag Tryd.prog 121 = 0 := by kernel_rfl
theorem y348 : tsz Tryd.prog 125 = some 1 := by kernel_rfl
theorem y349 : tagg Tryd.prog 125 = some false := by kernel_rfl
theorem y350 : tzc Tryd.prog 125 = some [M.d (D.v (Value.slice none 0 0))] := by kernel_rfl
theorem y351 : tz Tryd.prog 125 = some [M.d (D.v (Value.slice none 0 0))] := by kernel_rfl
theorem y352 : telem Tryd.prog 125 = some 101 := by kernel_rfl
theorem y353 : tel Tryd.prog 125 = some (1, 8, [M.d (D.v (Value.pointer none))]) := by kernel_rfl
theorem y354 : isStr Tryd.prog 125 = false := by kernel_rfl
theorem y355 : isU8 Tryd.prog 125 = false := by kernel_rfl
theorem y356 : tbytes Tryd.prog 125 = false := by kernel_rfl
theorem y357 : tsl Tryd.prog 125 = some 1 := by kernel_rfl
theorem y358 : btag Tryd.prog 125 = 0 := by kernel_rfl
theorem y359 : tsz Tryd.prog 132 = some 1 := by kernel_rfl
theorem y360 : tagg Tryd.prog 132 = some false := by kernel_rfl
theorem y361 : tsl Tryd.prog 132 = none := by kernel_rfl
theorem y362 : btag Tryd.prog 132 = 0 := by kernel_rfl
theorem y363 : tsz Tryd.prog 133 = some 1 := by kernel_rfl
theorem y364 : tagg Tryd.prog 133 = some false := by kernel_rfl
theorem y365 : tsl Tryd.prog 133 = none := by kernel_rfl
theorem y366 : btag Tryd.prog 133 = 0 := by kernel_rfl
theorem y367 : tsz Tryd.prog 147 = some 24 := by kernel_rfl
theorem y368 : tagg Tryd.prog 147 = some true := by kernel_rfl
theorem y369 : tzc Tryd.prog 147 = some [M.d (D.v (Value.int IntKind.u8 0)), M.d (D.v (Value.int IntKind.u8 0)), M.d (D.v (Value.int IntKind.u8 0)), M.d (D.v (Value.int IntKind.u8 0)), M.d (D.v (Value.int IntKind.u8 0)), M.d (D.v (Value.int IntKind.u8 0)), M.d (D.v (Value.int IntKind.u8 0)), M.d (D.v (Value.int IntKind.u8 0)), M.d (D.v (Value.int IntKind.u8 0)), M.d (D.v (Value.int IntKind.u8 0)), M.d (D.v (Value.int IntKind.u8 0)), M.d (D.v (Value.int IntKind.u8 0)), M.d (D.v (Value.int IntKind.u8 0)), M.d (D.v (Value.int IntKind.u8 0)), M.d (D.v (Value.int IntKind.u8 0)), M.d (D.v (Value.int IntKind.u8 0)), M.d (D.v (Value.int IntKind.u8 0)), M.d (D.v (Value.int IntKind.u8 0)), M.d (D.v (Value.int IntKind.u8 0)), M.d (D.v (Value.int IntKind.u8 0)), M.d (D.v (Value.int IntKind.u8 0)), M.d (D.v (Value.int IntKind.u8 0)), M.d (D.v (Value.int IntKind.u8 0)), M.d (D.v (Value.int IntKind.u8 0))] := by kernel_rfl
theorem y370 : tz Tryd.prog 147 = some [M.d (D.v (Value.int IntKind.u8 0)), M.d (D.v (Value.int IntKind.u8 0)), M.d (D.v (Value.int IntKind.u8 0)), M.d (D.v (Value.int IntKind.u8 0)), M.d (D.v (Value.int IntKind.u8 0)), M.d (D.v (Value.int IntKind.u8 0)), M.d (D.v (Value.int IntKind.u8 0)), M.d (D.v (Value.int IntKind.u8 0)), M.d (D.v (Value.int IntKind.u8 0)), M.d (D.v (Value.int IntKind.u8 0)), M.d (D.v (Value.int IntKind.u8 0)), M.d (D.v (Value.int IntKind.u8 0)), M.d (D.v (Value.int IntKind.u8 0)), M.d (D.v (Value.int IntKind.u8 0)), M.d (D.v (Value.int IntKind.u8 0)), M.d (D.v (Value.int IntKind.u8 0)), M.d (D.v (Value.int IntKind.u8 0)), M.d (D.v (Value.int IntKind.u8 0)), M.d (D.v (Value.int IntKind.u8 0)), M.d (D.v (Value.int IntKind.u8 0)), M.d (D.v (Value.int IntKind.u8 0)), M.d (D.v (Value.int IntKind.u8 0)), M.d (D.v (Value.int IntKind.u8 0)), M.d (D.v (Value.int IntKind.u8 0))] := by kernel_rfl
theorem y371 : tpl Tryd.prog 147 = some (Pl.es 1) := by kernel_rfl
theorem y372 : tarr Tryd.prog 147 = some (24, 5) := by kernel_rfl
theorem y373 : tsl Tryd.prog 147 = none := by kernel_rfl
theorem y374 : btag Tryd.prog 147 = 0 := by kernel_rfl
theorem y375 : cty Tryd.prog 9 147 = [none, none, none, none, none, none, none, none, none, none, none, none, none, none, none, none, none, none, none, none, none, none, none, none] := by kernel_rfl
theorem y376 : tsz Tryd.prog 148 = some 1 := by kernel_rfl
theorem y377 : tagg Tryd.prog 148 = some false := by kernel_rfl
theorem y378 : tzc Tryd.prog 148 = some [M.d (D.v (Value.int IntKind.u64 0))] := by kernel_rfl
theorem y379 : tz Tryd.prog 148 = some [M.d (D.v (Value.int IntKind.u64 0))] := by kernel_rfl
theorem y380 : tint Tryd.prog 148 = some IntKind.u64 := by kernel_rfl
theorem y381 : telem Tryd.prog 148 = none := by kernel_rfl
theorem y382 : isStr Tryd.prog 148 = false := by kernel_rfl
theorem y383 : isU8 Tryd.prog 148 = false := by kernel_rfl
theorem y384 : tbytes Tryd.prog 148 = false := by kernel_rfl
theorem y385 : tsl Tryd.prog 148 = none := by kernel_rfl
theorem y386 : btag Tryd.prog 148 = 0 := by kernel_rfl
theorem y387 : tsz Tryd.prog 155 = some 20 := by kernel_rfl
theorem y388 : tagg Tryd.prog 155 = some true := by kernel_rfl
theorem y389 : tzc Tryd.prog 155 = some [M.d (D.v (Value.int IntKind.u64 0)), M.d (D.v (Value.int IntKind.u64 0)), M.d (D.v (Value.int IntKind.u64 0)), M.d (D.v (Value.int IntKind.u64 0)), M.d (D.v (Value.int IntKind.u64 0)), M.d (D.v (Value.int IntKind.u64 0)), M.d (D.v (Value.int IntKind.u64 0)), M.d (D.v (Value.int IntKind.u64 0)), M.d (D.v (Value.int IntKind.u64 0)), M.d (D.v (Value.int IntKind.u64 0)), M.d (D.v (Value.int IntKind.u64 0)), M.d (D.v (Value.int IntKind.u64 0)), M.d (D.v (Value.int IntKind.u64 0)), M.d (D.v (Value.int IntKind.u64 0)), M.d (D.v (Value.int IntKind.u64 0)), M.d (D.v (Value.int IntKind.u64 0)), M.d (D.v (Value.int IntKind.u64 0)), M.d (D.v (Value.int IntKind.u64 0)), M.d (D.v (Value.int IntKind.u64 0)), M.d (D.v (Value.int IntKind.u64 0))] := by kernel_rfl
theorem y390 : tz Tryd.prog 155 = some [M.d (D.v (Value.int IntKind.u64 0)), M.d (D.v (Value.int IntKind.u64 0)), M.d (D.v (Value.int IntKind.u64 0)), M.d (D.v (Value.int IntKind.u64 0)), M.d (D.v (Value.int IntKind.u64 0)), M.d (D.v (Value.int IntKind.u64 0)), M.d (D.v (Value.int IntKind.u64 0)), M.d (D.v (Value.int IntKind.u64 0)), M.d (D.v (Value.int IntKind.u64 0)), M.d (D.v (Value.int IntKind.u64 0)), M.d (D.v (Value.int IntKind.u64 0)), M.d (D.v (Value.int IntKind.u64 0)), M.d (D.v (Value.int IntKind.u64 0)), M.d (D.v (Value.int IntKind.u64 0)), M.d (D.v (Value.int IntKind.u64 0)), M.d (D.v (Value.int IntKind.u64 0)), M.d (D.v (Value.int IntKind.u64 0)), M.d (D.v (Value.int IntKind.u64 0)), M.d (D.v (Value.int IntKind.u64 0)), M.d (D.v (Value.int IntKind.u64 0))] := by kernel_rfl
theorem y391 : tpl Tryd.prog 155 = some (Pl.es 1) := by kernel_rfl
theorem y392 : tarr Tryd.prog 155 = some (20, 148) := by kernel_rfl
theorem y393 : tsl Tryd.prog 155 = none := by kernel_rfl
theorem y394 : btag Tryd.prog 155 = 0 := by kernel_rfl
theorem y395 : cty Tryd.prog 9 155 = [none, none, none, none, none, none, none, none, none, none, none, none, none, none, none, none, none, none, none, none] := by kernel_rfl
theorem y396 : tsz Tryd.prog 156 = some 1 := by kernel_rfl
theorem y397 : tagg Tryd.prog 156 = some false := by kernel_rfl
theorem y398 : tzc Tryd.prog 156 = some [M.d (D.v (Value.int IntKind.u32 0))] := by kernel_rfl
theorem y399 : tz Tryd.prog 156 = some [M.d (D.v (Value.int IntKind.u32 0))] := by kernel_rfl
theorem y400 : tint Tryd.prog 156 = some IntKind.u32 := by kernel_rfl
theorem y401 : telem Tryd.prog 156 = none := by kernel_rfl
theorem y402 : isStr Tryd.prog 156 = false := by kernel_rfl
theorem y403 : isU8 Tryd.prog 156 = false := by kernel_rfl
theorem y404 : tbytes Tryd.prog 156 = false := by kernel_rfl
theorem y405 : tsl Tryd.prog 156 = none := by kernel_rfl
theorem y406 : btag Tryd.prog 156 = 0 := by kernel_rfl
theorem y407 : tsz Tryd.prog 157 = some 65 := by kernel_rfl
theorem y408 : tagg Tryd.prog 157 = some true := by kernel_rfl
theorem y409 : tzc Tryd.prog 157 = some [M.d (D.v (Value.int IntKind.u8 0)), M.d (D.v (Value.int IntKind.u8 0)), M.d (D.v (Value.int IntKind.u8 0)), M.d (D.v (Value.int IntKind.u8 0)), M.d (D.v (Value.int IntKind.u8 0)), M.d (D.v (Value.int IntKind.u8 0)), M.d (D.v (Value.int IntKind.u8 0)), M.d (D.v (Value.int IntKind.u8 0)), M.d (D.v (Value.int IntKind.u8 0)), M.d (D.v (Value.int IntKind.u8 0)), M.d (D.v (Value.int IntKind.u8 0)), M.d (D.v (Value.int IntKind.u8 0)), M.d (D.v (Value.int IntKind.u8 0)), M.d (D.v (Value.int IntKind.u8 0)), M.d (D.v (Value.int IntKind.u8 0)), M.d (D.v (Value.int IntKind.u8 0)), M.d (D.v (Value.int IntKind.u8 0)), M.d (D.v (Value.int IntKind.u8 0)), M.d (D.v (Value.int IntKind.u8 0)), M.d (D.v (Value.int IntKind.u8 0)), M.d (D.v (Value.int IntKind.u8 0)), M.d (D.v (Value.int IntKind.u8 0)), M.d (D.v (Value.int IntKind.u8 0)), M.d (D.v (Value.int IntKind.u8 0)), M.d (D.v (Value.int IntKind.u8 0)), M.d (D.v (Value.int IntKind.u8 0)), M.d (D.v (Value.int IntKind.u8 0)), M.d (D.v (Value.int IntKind.u8 0)), M.d (D.v (Value.int IntKind.u8 0)), M.d (D.v (Value.int IntKind.u8 0)), M.d (D.v (Value.int IntKind.u8 0)), M.d (D.v (Value.int IntKind.u8 0)), M.d (D.v (Value.int IntKind.u8 0)), M.d (D.v (Value.int IntKind.u8 0)), M.d (D.v (Value.int IntKind.u8 0)), M.d (D.v (Value.int IntKind.u8 0)), M.d (D.v (Value.int IntKind.u8 0)), M.d (D.v (Value.int IntKind.u8 0)), M.d (D.v (Value.int IntKind.u8 0)), M.d (D.v (Value.int IntKind.u8 0)), M.d (D.v (Value.int IntKind.u8 0)), M.d (D.v (Value.int IntKind.u8 0)), M.d (D.v (Value.int IntKind.u8 0)), M.d (D.v (Value.int IntKind.u8 0)), M.d (D.v (Value.int IntKind.u8 0)), M.d (D.v (Value.int IntKind.u8 0)), M.d (D.v (Value.int IntKind.u8 0)), M.d (D.v (Value.int IntKind.u8 0)), M.d (D.v (Value.int IntKind.u8 0)), M.d (D.v (Value.int IntKind.u8 0)), M.d (D.v (Value.int IntKind.u8 0)), M.d (D.v (Value.int IntKind.u8 0)), M.d (D.v (Value.int IntKind.u8 0)), M.d (D.v (Value.int IntKind.u8 0)), M.d (D.v (Value.int IntKind.u8 0)), M.d (D.v (Value.int IntKind.u8 0)), M.d (D.v (Value.int IntKind.u8 0)), M.d (D.v (Value.int IntKind.u8 0)), M.d (D.v (Value.int IntKind.u8 0)), M.d (D.v (Value.int IntKind.u8 0)), M.d (D.v (Value.int IntKind.u8 0)), M.d (D.v (Value.int IntKind.u8 0)), M.d (D.v (Value.int IntKind.u8 0)), M.d (D.v (Value.int IntKind.u8 0)), M.d (D.v (Value.int IntKind.u8 0))] := by kernel_rfl
theorem y410 : tz Tryd.prog 157 = some [M.d (D.v (Value.int IntKind.u8 0)), M.d (D.v (Value.int IntKind.u8 0)), M.d (D.v (Value.int IntKind.u8 0)), M.d (D.v (Value.int IntKind.u8 0)), M.d (D.v (Value.int IntKind.u8 0)), M.d (D.v (Value.int IntKind.u8 0)), M.d (D.v (Value.int IntKind.u8 0)), M.d (D.v (Value.int IntKind.u8 0)), M.d (D.v (Value.int IntKind.u8 0)), M.d (D.v (Value.int IntKind.u8 0)), M.d (D.v (Value.int IntKind.u8 0)), M.d (D.v (Value.int IntKind.u8 0)), M.d (D.v (Value.int IntKind.u8 0)), M.d (D.v (Value.int IntKind.u8 0)), M.d (D.v (Value.int IntKind.u8 0)), M.d (D.v (Value.int IntKind.u8 0)), M.d (D.v (Value.int IntKind.u8 0)), M.d (D.v (Value.int IntKind.u8 0)), M.d (D.v (Value.int IntKind.u8 0)), M.d (D.v (Value.int IntKind.u8 0)), M.d (D.v (Value.int IntKind.u8 0)), M.d (D.v (Value.int IntKind.u8 0)), M.d (D.v (Value.int IntKind.u8 0)), M.d (D.v (Value.int IntKind.u8 0)), M.d (D.v (Value.int IntKind.u8 0)), M.d (D.v (Value.int IntKind.u8 0)), M.d (D.v (Value.int IntKind.u8 0)), M.d (D.v (Value.int IntKind.u8 0)), M.d (D.v (Value.int IntKind.u8 0)), M.d (D.v (Value.int IntKind.u8 0)), M.d (D.v (Value.int IntKind.u8 0)), M.d (D.v (Value.int IntKind.u8 0)), M.d (D.v (Value.int IntKind.u8 0)), M.d (D.v (Value.int IntKind.u8 0)), M.d (D.v (Value.int IntKind.u8 0)), M.d (D.v (Value.int IntKind.u8 0)), M.d (D.v (Value.int IntKind.u8 0)), M.d (D.v (Value.int IntKind.u8 0)), M.d (D.v (Value.int IntKind.u8 0)), M.d (D.v (Value.int IntKind.u8 0)), M.d (D.v (Value.int IntKind.u8 0)), M.d (D.v (Value.int IntKind.u8 0)), M.d (D.v (Value.int IntKind.u8 0)), M.d (D.v (Value.int IntKind.u8 0)), M.d (D.v (Value.int IntKind.u8 0)), M.d (D.v (Value.int IntKind.u8 0)), M.d (D.v (Value.int IntKind.u8 0)), M.d (D.v (Value.int IntKind.u8 0)), M.d (D.v (Value.int IntKind.u8 0)), M.d (D.v (Value.int IntKind.u8 0)), M.d (D.v (Value.int IntKind.u8 0)), M.d (D.v (Value.int IntKind.u8 0)), M.d (D.v (Value.int IntKind.u8 0)), M.d (D.v (Value.int IntKind.u8 0)), M.d (D.v (Value.int IntKind.u8 0)), M.d (D.v (Value.int IntKind.u8 0)), M.d (D.v (Value.int IntKind.u8 0)), M.d (D.v (Value.int IntKind.u8 0)), M.d (D.v (Value.int IntKind.u8 0)), M.d (D.v (Value.int IntKind.u8 0)), M.d (D.v (Value.int IntKind.u8 0)), M.d (D.v (Value.int IntKind.u8 0)), M.d (D.v (Value.int IntKind.u8 0)), M.d (D.v (Value.int IntKind.u8 0)), M.d (D.v (Value.int IntKind.u8 0))] := by kernel_rfl
theorem y411 : tpl Tryd.prog 157 = some (Pl.es 1) := by kernel_rfl
theorem y412 : tarr Tryd.prog 157 = some (65, 5) := by kernel_rfl
theorem y413 : tsl Tryd.prog 157 = none := by kernel_rfl
theorem y414 : btag Tryd.prog 157 = 0 := by kernel_rfl
theorem y415 : cty Tryd.prog 9 157 = [none, none, none, none, none, none, none, none, none, none, none, none, none, none, none, none, none, none, none, none, none, none, none, none, none, none, none, none, none, none, none, none, none, none, none, none, none, none, none, none, none, none, none, none, none, none, none, none, none, none, none, none, none, none, none, none, none, none, none, none, none, none, none, none, none] := by kernel_rfl
theorem y416 : tsz Tryd.prog 163 = some 32 := by kernel_rfl
theorem y417 : tagg Tryd.prog 163 = some true := by kernel_rfl
theorem y418 : tzc Tryd.prog 163 = some [M.d (D.v (Value.int IntKind.u8 0)), M.d (D.v (Value.int IntKind.u8 0)), M.d (D.v (Value.int IntKind.u8 0)), M.d (D.v (Value.int IntKind.u8 0)), M.d (D.v (Value.int IntKind.u8 0)), M.d (D.v (Value.int IntKind.u8 0)), M.d (D.v (Value.int IntKind.u8 0)), M.d (D.v (Value.int IntKind.u8 0)), M.d (D.v (Value.int IntKind.u8 0)), M.d (D.v (Value.int IntKind.u8 0)), M.d (D.v (Value.int IntKind.u8 0)), M.d (D.v (Value.int IntKind.u8 0)), M.d (D.v (Value.int IntKind.u8 0)), M.d (D.v (Value.int IntKind.u8 0)), M.d (D.v (Value.int IntKind.u8 0)), M.d (D.v (Value.int IntKind.u8 0)), M.d (D.v (Value.int IntKind.u8 0)), M.d (D.v (Value.int IntKind.u8 0)), M.d (D.v (Value.int IntKind.u8 0)), M.d (D.v (Value.int IntKind.u8 0)), M.d (D.v (Value.int IntKind.u8 0)), M.d (D.v (Value.int IntKind.u8 0)), M.d (D.v (Value.int IntKind.u8 0)), M.d (D.v (Value.int IntKind.u8 0)), M.d (D.v (Value.int IntKind.u8 0)), M.d (D.v (Value.int IntKind.u8 0)), M.d (D.v (Value.int IntKind.u8 0)), M.d (D.v (Value.int IntKind.u8 0)), M.d (D.v (Value.int IntKind.u8 0)), M.d (D.v (Value.int IntKind.u8 0)), M.d (D.v (Value.int IntKind.u8 0)), M.d (D.v (Value.int IntKind.u8 0))] := by kernel_rfl
theorem y419 : tz Tryd.prog 163 = some [M.d (D.v (Value.int IntKind.u8 0)), M.d (D.v (Value.int IntKind.u8 0)), M.d (D.v (Value.int IntKind.u8 0)), M.d (D.v (Value.int IntKind.u8 0)), M.d (D.v (Value.int IntKind.u8 0)), M.d (D.v (Value.int IntKind.u8 0)), M.d (D.v (Value.int IntKind.u8 0)), M.d (D.v (Value.int IntKind.u8 0)), M.d (D.v (Value.int IntKind.u8 0)), M.d (D.v (Value.int IntKind.u8 0)), M.d (D.v (Value.int IntKind.u8 0)), M.d (D.v (Value.int IntKind.u8 0)), M.d (D.v (Value.int IntKind.u8 0)), M.d (D.v (Value.int IntKind.u8 0)), M.d (D.v (Value.int IntKind.u8 0)), M.d (D.v (Value.int IntKind.u8 0)), M.d (D.v (Value.int IntKind.u8 0)), M.d (D.v (Value.int IntKind.u8 0)), M.d (D.v (Value.int IntKind.u8 0)), M.d (D.v (Value.int IntKind.u8 0)), M.d (D.v (Value.int IntKind.u8 0)), M.d (D.v (Value.int IntKind.u8 0)), M.d (D.v (Value.int IntKind.u8 0)), M.d (D.v (Value.int IntKind.u8 0)), M.d (D.v (Value.int IntKind.u8 0)), M.d (D.v (Value.int IntKind.u8 0)), M.d (D.v (Value.int IntKind.u8 0)), M.d (D.v (Value.int IntKind.u8 0)), M.d (D.v (Value.int IntKind.u8 0)), M.d (D.v (Value.int IntKind.u8 0)), M.d (D.v (Value.int IntKind.u8 0)), M.d (D.v (Value.int IntKind.u8 0))] := by kernel_rfl
theorem y420 : tpl Tryd.prog 163 = some (Pl.es 1) := by kernel_rfl
theorem y421 : tarr Tryd.prog 163 = some (32, 5) := by kernel_rfl
theorem y422 : tsl Tryd.prog 163 = none := by kernel_rfl
theorem y423 : btag Tryd.prog 163 = 0 := by kernel_rfl
theorem y424 : cty Tryd.prog 9 163 = [none, none, none, none, none, none, none, none, none, none, none, none, none, none, none, none, none, none, none, none, none, none, none, none, none, none, none, none, none, none, none, none] := by kernel_rfl
theorem y425 : tsz Tryd.prog 164 = some 64 := by kernel_rfl
theorem y426 : tagg Tryd.prog 164 = some true := by kernel_rfl
theorem y427 : tzc Tryd.prog 164 = some [M.d (D.v (Value.int IntKind.u8 0)), M.d (D.v (Value.int IntKind.u8 0)), M.d (D.v (Value.int IntKind.u8 0)), M.d (D.v (Value.int IntKind.u8 0)), M.d (D.v (Value.int IntKind.u8 0)), M.d (D.v (Value.int IntKind.u8 0)), M.d (D.v (Value.int IntKind.u8 0)), M.d (D.v (Value.int IntKind.u8 0)), M.d (D.v (Value.int IntKind.u8 0)), M.d (D.v (Value.int IntKind.u8 0)), M.d (D.v (Value.int IntKind.u8 0)), M.d (D.v (Value.int IntKind.u8 0)), M.d (D.v (Value.int IntKind.u8 0)), M.d (D.v (Value.int IntKind.u8 0)), M.d (D.v (Value.int IntKind.u8 0)), M.d (D.v (Value.int IntKind.u8 0)), M.d (D.v (Value.int IntKind.u8 0)), M.d (D.v (Value.int IntKind.u8 0)), M.d (D.v (Value.int IntKind.u8 0)), M.d (D.v (Value.int IntKind.u8 0)), M.d (D.v (Value.int IntKind.u8 0)), M.d (D.v (Value.int IntKind.u8 0)), M.d (D.v (Value.int IntKind.u8 0)), M.d (D.v (Value.int IntKind.u8 0)), M.d (D.v (Value.int IntKind.u8 0)), M.d (D.v (Value.int IntKind.u8 0)), M.d (D.v (Value.int IntKind.u8 0)), M.d (D.v (Value.int IntKind.u8 0)), M.d (D.v (Value.int IntKind.u8 0)), M.d (D.v (Value.int IntKind.u8 0)), M.d (D.v (Value.int IntKind.u8 0)), M.d (D.v (Value.int IntKind.u8 0)), M.d (D.v (Value.int IntKind.u8 0)), M.d (D.v (Value.int IntKind.u8 0)), M.d (D.v (Value.int IntKind.u8 0)), M.d (D.v (Value.int IntKind.u8 0)), M.d (D.v (Value.int IntKind.u8 0)), M.d (D.v (Value.int IntKind.u8 0)), M.d (D.v (Value.int IntKind.u8 0)), M.d (D.v (Value.int IntKind.u8 0)), M.d (D.v (Value.int IntKind.u8 0)), M.d (D.v (Value.int IntKind.u8 0)), M.d (D.v (Value.int IntKind.u8 0)), M.d (D.v (Value.int IntKind.u8 0)), M.d (D.v (Value.int IntKind.u8 0)), M.d (D.v (Value.int IntKind.u8 0)), M.d (D.v (Value.int IntKind.u8 0)), M.d (D.v (Value.int IntKind.u8 0)), M.d (D.v (Value.int IntKind.u8 0)), M.d (D.v (Value.int IntKind.u8 0)), M.d (D.v (Value.int IntKind.u8 0)), M.d (D.v (Value.int IntKind.u8 0)), M.d (D.v (Value.int IntKind.u8 0)), M.d (D.v (Value.int IntKind.u8 0)), M.d (D.v (Value.int IntKind.u8 0)), M.d (D.v (Value.int IntKind.u8 0)), M.d (D.v (Value.int IntKind.u8 0)), M.d (D.v (Value.int IntKind.u8 0)), M.d (D.v (Value.int IntKind.u8 0)), M.d (D.v (Value.int IntKind.u8 0)), M.d (D.v (Value.int IntKind.u8 0)), M.d (D.v (Value.int IntKind.u8 0)), M.d (D.v (Value.int IntKind.u8 0)), M.d (D.v (Value.int IntKind.u8 0))] := by kernel_rfl
theorem y428 : tz Tryd.prog 164 = some [M.d (D.v (Value.int IntKind.u8 0)), M.d (D.v (Value.int IntKind.u8 0)), M.d (D.v (Value.int IntKind.u8 0)), M.d (D.v (Value.int IntKind.u8 0)), M.d (D.v (Value.int IntKind.u8 0)), M.d (D.v (Value.int IntKind.u8 0)), M.d (D.v (Value.int IntKind.u8 0)), M.d (D.v (Value.int IntKind.u8 0)), M.d (D.v (Value.int IntKind.u8 0)), M.d (D.v (Value.int IntKind.u8 0)), M.d (D.v (Value.int IntKind.u8 0)), M.d (D.v (Value.int IntKind.u8 0)), M.d (D.v (Value.int IntKind.u8 0)), M.d (D.v (Value.int IntKind.u8 0)), M.d (D.v (Value.int IntKind.u8 0)), M.d (D.v (Value.int IntKind.u8 0)), M.d (D.v (Value.int IntKind.u8 0)), M.d (D.v (Value.int IntKind.u8 0)), M.d (D.v (Value.int IntKind.u8 0)), M.d (D.v (Value.int IntKind.u8 0)), M.d (D.v (Value.int IntKind.u8 0)), M.d (D.v (Value.int IntKind.u8 0)), M.d (D.v (Value.int IntKind.u8 0)), M.d (D.v (Value.int IntKind.u8 0)), M.d (D.v (Value.int IntKind.u8 0)), M.d (D.v (Value.int IntKind.u8 0)), M.d (D.v (Value.int IntKind.u8 0)), M.d (D.v (Value.int IntKind.u8 0)), M.d (D.v (Value.int IntKind.u8 0)), M.d (D.v (Value.int IntKind.u8 0)), M.d (D.v (Value.int IntKind.u8 0)), M.d (D.v (Value.int IntKind.u8 0)), M.d (D.v (Value.int IntKind.u8 0)), M.d (D.v (Value.int IntKind.u8 0)), M.d (D.v (Value.int IntKind.u8 0)), M.d (D.v (Value.int IntKind.u8 0)), M.d (D.v (Value.int IntKind.u8 0)), M.d (D.v (Value.int IntKind.u8 0)), M.d (D.v (Value.int IntKind.u8 0)), M.d (D.v (Value.int IntKind.u8 0)), M.d (D.v (Value.int IntKind.u8 0)), M.d (D.v (Value.int IntKind.u8 0)), M.d (D.v (Value.int IntKind.u8 0)), M.d (D.v (Value.int IntKind.u8 0)), M.d (D.v (Value.int IntKind.u8 0)), M.d (D.v (Value.int IntKind.u8 0)), M.d (D.v (Value.int IntKind.u8 0)), M.d (D.v (Value.int IntKind.u8 0)), M.d (D.v (Value.int IntKind.u8 0)), M.d (D.v (Value.int IntKind.u8 0)), M.d (D.v (Value.int IntKind.u8 0)), M.d (D.v (Value.int IntKind.u8 0)), M.d (D.v (Value.int IntKind.u8 0)), M.d (D.v (Value.int IntKind.u8 0)), M.d (D.v (Value.int IntKind.u8 0)), M.d (D.v (Value.int IntKind.u8 0)), M.d (D.v (Value.int IntKind.u8 0)), M.d (D.v (Value.int IntKind.u8 0)), M.d (D.v (Value.int IntKind.u8 0)), M.d (D.v (Value.int IntKind.u8 0)), M.d (D.v (Value.int IntKind.u8 0)), M.d (D.v (Value.int IntKind.u8 0)), M.d (D.v (Value.int IntKind.u8 0)), M.d (D.v (Value.int IntKind.u8 0))] := by kernel_rfl
theorem y429 : tpl Tryd.prog 164 = some (Pl.es 1) := by kernel_rfl
theorem y430 : tarr Tryd.prog 164 = some (64, 5) := by kernel_rfl
theorem y431 : tsl Tryd.prog 164 = none := by kernel_rfl
theorem y432 : btag Tryd.prog 164 = 0 := by kernel_rfl
theorem y433 : cty Tryd.prog 9 164 = [none, none, none, none, none, none, none, none, none, none, none, none, none, none, none, none, none, none, none, none, none, none, none, none, none, none, none, none, none, none, none, none, none, none, none, none, none, none, none, none, none, none, none, none, none, none, none, none, none, none, none, none, none, none, none, none, none, none, none, none, none, none, none, none] := by kernel_rfl
theorem mix : Tryd.prog.follows .mixedOrders = true := by kernel_rfl
def tyf0 := And.intro y0 (And.intro y1 (And.intro y2 (And.intro y3 (And.intro y4 (And.intro y5 (And.intro y6 (And.intro y7 (And.intro y8 (And.intro y9 (And.intro y10 (And.intro y11 (And.intro y12 (And.intro y13 (And.intro y14 (y15)))))))))))))))
def tyf1 := And.intro y16 (And.intro y17 (And.intro y18 (And.intro y19 (And.intro y20 (And.intro y21 (And.intro y22 (And.intro y23 (And.intro y24 (And.intro y25 (And.intro y26 (And.intro y27 (And.intro y28 (And.intro y29 (And.intro y30 (y31)))))))))))))))
def tyf2 := And.intro y32 (And.intro y33 (And.intro y34 (And.intro y35 (And.intro y36 (And.intro y37 (And.intro y38 (And.intro y39 (And.intro y40 (And.intro y41 (And.intro y42 (And.intro y43 (And.intro y44 (And.intro y45 (And.intro y46 (y47)))))))))))))))
def tyf3 := And.intro y48 (And.intro y49 (And.intro y50 (And.intro y51 (And.intro y52 (And.intro y53 (And.intro y54 (And.intro y55 (And.intro y56 (And.intro y57 (And.intro y58 (And.intro y59 (And.intro y60 (And.intro y61 (And.intro y62 (y63)))))))))))))))
def tyf4 := And.intro y64 (And.intro y65 (And.intro y66 (And.intro y67 (And.intro y68 (And.intro y69 (And.intro y70 (And.intro y71 (And.intro y72 (And.intro y73 (And.intro y74 (And.intro y75 (And.intro y76 (And.intro y77 (And.intro y78 (y79)))))))))))))))
def tyf5 := And.intro y80 (And.intro y81 (And.intro y82 (And.intro y83 (And.intro y84 (And.intro y85 (And.intro y86 (And.intro y87 (And.intro y88 (And.intro y89 (And.intro y90 (And.intro y91 (And.intro y92 (And.intro y93 (And.intro y94 (y95)))))))))))))))
def tyf6 := And.intro y96 (And.intro y97 (And.intro y98 (And.intro y99 (And.intro y100 (And.intro y101 (And.intro y102 (And.intro y103 (And.intro y104 (And.intro y105 (And.intro y106 (And.intro y107 (And.intro y108 (And.intro y109 (And.intro y110 (y111)))))))))))))))
def tyf7 := And.intro y112 (And.intro y113 (And.intro y114 (And.intro y115 (And.intro y116 (And.intro y117 (And.intro y118 (And.intro y119 (And.intro y120 (And.intro y121 (And.intro y122 (And.intro y123 (And.intro y124 (And.intro y125 (And.intro y126 (y127)))))))))))))))
def tyf8 := And.intro y128 (And.intro y129 (And.intro y130 (And.intro y131 (And.intro y132 (And.intro y133 (And.intro y134 (And.intro y135 (And.intro y136 (And.intro y137 (And.intro y138 (And.intro y139 (And.intro y140 (And.intro y141 (And.intro y142 (y143)))))))))))))))
def tyf9 := And.intro y144 (And.intro y145 (And.intro y146 (And.intro y147 (And.intro y148 (And.intro y149 (And.intro y150 (And.intro y151 (And.intro y152 (And.intro y153 (And.intro y154 (And.intro y155 (And.intro y156 (And.intro y157 (And.intro y158 (y159)))))))))))))))
def tyf10 := And.intro y160 (And.intro y161 (And.intro y162 (And.intro y163 (And.intro y164 (And.intro y165 (And.intro y166 (And.intro y167 (And.intro y168 (And.intro y169 (And.intro y170 (And.intro y171 (And.intro y172 (And.intro y173 (And.intro y174 (y175)))))))))))))))
def tyf11 := And.intro y176 (And.intro y177 (And.intro y178 (And.intro y179 (And.intro y180 (And.intro y181 (And.intro y182 (And.intro y183 (And.intro y184 (And.intro y185 (And.intro y186 (And.intro y187 (And.intro y188 (And.intro y189 (And.intro y190 (y191)))))))))))))))
def tyf12 := And.intro y192 (And.intro y193 (And.intro y194 (And.intro y195 (And.intro y196 (And.intro y197 (And.intro y198 (And.intro y199 (And.intro y200 (And.intro y201 (And.intro y202 (And.intro y203 (And.intro y204 (And.intro y205 (And.intro y206 (y207)))))))))))))))
def tyf13 := And.intro y208 (And.intro y209 (And.intro y210 (And.intro y211 (And.intro y212 (And.intro y213 (And.intro y214 (And.intro y215 (And.intro y216 (And.intro y217 (And.intro y218 (And.intro y219 (And.intro y220 (And.intro y221 (And.intro y222 (y223)))))))))))))))
def tyf14 := And.intro y224 (And.intro y225 (And.intro y226 (And.intro y227 (And.intro y228 (And.intro y229 (And.intro y230 (And.intro y231 (And.intro y232 (And.intro y233 (And.intro y234 (And.intro y235 (And.intro y236 (And.intro y237 (And.intro y238 (y239)))))))))))))))
def tyf15 := And.intro y240 (And.intro y241 (And.intro y242 (And.intro y243 (And.intro y244 (And.intro y245 (And.intro y246 (And.intro y247 (And.intro y248 (And.intro y249 (And.intro y250 (And.intro y251 (And.intro y252 (And.intro y253 (And.intro y254 (y255)))))))))))))))
def tyf16 := And.intro y256 (And.intro y257 (And.intro y258 (And.intro y259 (And.intro y260 (And.intro y261 (And.intro y262 (And.intro y263 (And.intro y264 (And.intro y265 (And.intro y266 (And.intro y267 (And.intro y268 (And.intro y269 (And.intro y270 (y271)))))))))))))))
def tyf17 := And.intro y272 (And.intro y273 (And.intro y274 (And.intro y275 (And.intro y276 (And.intro y277 (And.intro y278 (And.intro y279 (And.intro y280 (And.intro y281 (And.intro y282 (And.intro y283 (And.intro y284 (And.intro y285 (And.intro y286 (y287)))))))))))))))
def tyf18 := And.intro y288 (And.intro y289 (And.intro y290 (And.intro y291 (And.intro y292 (And.intro y293 (And.intro y294 (And.intro y295 (And.intro y296 (And.intro y297 (And.intro y298 (And.intro y299 (And.intro y300 (And.intro y301 (And.intro y302 (y303)))))))))))))))
def tyf19 := And.intro y304 (And.intro y305 (And.intro y306 (And.intro y307 (And.intro y308 (And.intro y309 (And.intro y310 (And.intro y311 (And.intro y312 (And.intro y313 (And.intro y314 (And.intro y315 (And.intro y316 (And.intro y317 (And.intro y318 (y319)))))))))))))))
def tyf20 := And.intro y320 (And.intro y321 (And.intro y322 (And.intro y323 (And.intro y324 (And.intro y325 (And.intro y326 (And.intro y327 (And.intro y328 (And.intro y329 (And.intro y330 (And.intro y331 (And.intro y332 (And.intro y333 (And.intro y334 (y335)))))))))))))))
def tyf21 := And.intro y336 (And.intro y337 (And.intro y338 (And.intro y339 (And.intro y340 (And.intro y341 (And.intro y342 (And.intro y343 (And.intro y344 (And.intro y345 (And.intro y346 (And.intro y347 (And.intro y348 (And.intro y349 (And.intro y350 (y351)))))))))))))))
def tyf22 := And.intro y352 (And.intro y353 (And.intro y354 (And.intro y355 (And.intro y356 (And.intro y357 (And.intro y358 (And.intro y359 (And.intro y360 (And.intro y361 (And.intro y362 (And.intro y363 (And.intro y364 (And.intro y365 (And.intro y366 (y367)))))))))))))))
def tyf23 := And.intro y368 (And.intro y369 (And.intro y370 (And.intro y371 (And.intro y372 (And.intro y373 (And.intro y374 (And.intro y375 (And.intro y376 (And.intro y377 (And.intro y378 (And.intro y379 (And.intro y380 (And.intro y381 (And.intro y382 (y383)))))))))))))))
def tyf24 := And.intro y384 (And.intro y385 (And.intro y386 (And.intro y387 (And.intro y388 (And.intro y389 (And.intro y390 (And.intro y391 (And.intro y392 (And.intro y393 (And.intro y394 (And.intro y395 (And.intro y396 (And.intro y397 (And.intro y398 (y399)))))))))))))))
def tyf25 := And.intro y400 (And.intro y401 (And.intro y402 (And.intro y403 (And.intro y404 (And.intro y405 (And.intro y406 (And.intro y407 (And.intro y408 (And.intro y409 (And.intro y410 (And.intro y411 (And.intro y412 (And.intro y413 (And.intro y414 (y415)))))))))))))))
def tyf26 := And.intro y416 (And.intro y417 (And.intro y418 (And.intro y419 (And.intro y420 (And.intro y421 (And.intro y422 (And.intro y423 (And.intro y424 (And.intro y425 (And.intro y426 (And.intro y427 (And.intro y428 (And.intro y429 (And.intro y430 (y431)))))))))))))))
def tyf27 := And.intro y432 (y433)
def tyf := And.intro tyf0 (And.intro tyf1 (And.intro tyf2 (And.intro tyf3 (And.intro tyf4 (And.intro tyf5 (And.intro tyf6 (And.intro tyf7 (And.intro tyf8 (And.intro tyf9 (And.intro tyf10 (And.intro tyf11 (And.intro tyf12 (And.intro tyf13 (And.intro tyf14 (And.intro tyf15 (And.intro tyf16 (And.intro tyf17 (And.intro tyf18 (And.intro tyf19 (And.intro tyf20 (And.intro tyf21 (And.intro tyf22 (And.intro tyf23 (And.intro tyf24 (And.intro tyf25 (And.intro tyf26 (tyf27)))))))))))))))))))))))))))
end Go.Fa
