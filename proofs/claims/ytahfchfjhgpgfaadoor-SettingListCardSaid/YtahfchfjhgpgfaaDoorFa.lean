import Derived.Test.YtahfchfjhgpgfaaDoorRows
import Derived.WalkKit
import Derived.Test.YtahfchfjhgpgfaaDoorAbs4
set_option linter.all false
/- What is known of the types of the program. -/
open Go.Proofs Go.Abs
namespace Go.Fa
theorem y0 : tsz Tryd.prog 3 = some 1 := by kernel_rfl
theorem y1 : tagg Tryd.prog 3 = some false := by kernel_rfl
theorem y2 : tzc Tryd.prog 3 = some [M.d (D.v (Value.int IntKind.i64 0))] := by kernel_rfl
theorem y3 : tz Tryd.prog 3 = some [M.d (D.v (Value.int IntKind.i64 0))] := by kernel_rfl
theorem y4 : tint Tryd.prog 3 = some IntKind.i64 := by kernel_rfl
theorem y5 : telem Tryd.prog 3 = none := by kernel_rfl
theorem y6 : isStr Tryd.prog 3 = false := by kernel_rfl
theorem y7 : isU8 Tryd.prog 3 = false := by kernel_rfl
theorem y8 : tbytes Tryd.prog 3 = false := by kernel_rfl
theorem y9 : tsl Tryd.prog 3 = none := by kernel_rfl
theorem y10 : btag Tryd.prog 3 = 0 := by kernel_rfl
theorem y11 : tsz Tryd.prog 4 = some 1 := by kernel_rfl
theorem y12 : tagg Tryd.prog 4 = some false := by kernel_rfl
theorem y13 : tzc Tryd.prog 4 = some [M.d (D.v (Value.bool false))] := by kernel_rfl
theorem y14 : tz Tryd.prog 4 = some [M.d (D.v (Value.bool false))] := by kernel_rfl
theorem y15 : tsl Tryd.prog 4 = none := by kernel_rfl
theorem y16 : btag Tryd.prog 4 = 0 := by kernel_rfl
theorem y17 : tsz Tryd.prog 5 = some 1 := by kernel_rfl
theorem y18 : tagg Tryd.prog 5 = some false := by kernel_rfl
theorem y19 : tzc Tryd.prog 5 = some [M.d (D.v (Value.int IntKind.u8 0))] := by kernel_rfl
theorem y20 : tz Tryd.prog 5 = some [M.d (D.v (Value.int IntKind.u8 0))] := by kernel_rfl
theorem y21 : tint Tryd.prog 5 = some IntKind.u8 := by kernel_rfl
theorem y22 : telem Tryd.prog 5 = none := by kernel_rfl
theorem y23 : isStr Tryd.prog 5 = false := by kernel_rfl
theorem y24 : isU8 Tryd.prog 5 = true := by kernel_rfl
theorem y25 : tbytes Tryd.prog 5 = false := by kernel_rfl
theorem y26 : tsl Tryd.prog 5 = none := by kernel_rfl
theorem y27 : btag Tryd.prog 5 = 0 := by kernel_rfl
theorem y28 : tsz Tryd.prog 9 = some 1 := by kernel_rfl
theorem y29 : tagg Tryd.prog 9 = some false := by kernel_rfl
theorem y30 : tzc Tryd.prog 9 = some [strM []] := by kernel_rfl
theorem y31 : tz Tryd.prog 9 = some [strM []] := by kernel_rfl
theorem y32 : telem Tryd.prog 9 = none := by kernel_rfl
theorem y33 : isStr Tryd.prog 9 = true := by kernel_rfl
theorem y34 : isU8 Tryd.prog 9 = false := by kernel_rfl
theorem y35 : tbytes Tryd.prog 9 = false := by kernel_rfl
theorem y36 : tsl Tryd.prog 9 = none := by kernel_rfl
theorem y37 : btag Tryd.prog 9 = 0 := by kernel_rfl
theorem y38 : tsz Tryd.prog 27 = some 1 := by kernel_rfl
theorem y39 : tagg Tryd.prog 27 = some false := by kernel_rfl
theorem y40 : tzc Tryd.prog 27 = some [M.d (D.v (Value.slice none 0 0))] := by kernel_rfl
theorem y41 : tz Tryd.prog 27 = some [M.d (D.v (Value.slice none 0 0))] := by kernel_rfl
theorem y42 : telem Tryd.prog 27 = some 5 := by kernel_rfl
theorem y43 : tel Tryd.prog 27 = some (1, 1, [M.d (D.v (Value.int IntKind.u8 0))]) := by kernel_rfl
theorem y44 : isStr Tryd.prog 27 = false := by kernel_rfl
theorem y45 : isU8 Tryd.prog 27 = false := by kernel_rfl
theorem y46 : tbytes Tryd.prog 27 = true := by kernel_rfl
theorem y47 : tsl Tryd.prog 27 = some 1 := by kernel_rfl
theorem y48 : btag Tryd.prog 27 = 0 := by kernel_rfl
theorem y49 : tsz Tryd.prog 35 = some 1 := by kernel_rfl
theorem y50 : tagg Tryd.prog 35 = some false := by kernel_rfl
theorem y51 : tzc Tryd.prog 35 = some [M.d (D.v (Value.slice none 0 0))] := by kernel_rfl
theorem y52 : tz Tryd.prog 35 = some [M.d (D.v (Value.slice none 0 0))] := by kernel_rfl
theorem y53 : telem Tryd.prog 35 = some 9 := by kernel_rfl
theorem y54 : tel Tryd.prog 35 = some (1, 16, [strM []]) := by kernel_rfl
theorem y55 : isStr Tryd.prog 35 = false := by kernel_rfl
theorem y56 : isU8 Tryd.prog 35 = false := by kernel_rfl
theorem y57 : tbytes Tryd.prog 35 = false := by kernel_rfl
theorem y58 : tsl Tryd.prog 35 = some 1 := by kernel_rfl
theorem y59 : btag Tryd.prog 35 = 0 := by kernel_rfl
theorem y60 : tsz Tryd.prog 44 = some 2 := by kernel_rfl
theorem y61 : tagg Tryd.prog 44 = some true := by kernel_rfl
theorem y62 : tzc Tryd.prog 44 = some [M.d (D.v (Value.int IntKind.i64 0)), M.d (D.v (Value.int IntKind.i64 0))] := by kernel_rfl
theorem y63 : tz Tryd.prog 44 = some [M.d (D.v (Value.int IntKind.i64 0)), M.d (D.v (Value.int IntKind.i64 0))] := by kernel_rfl
theorem y64 : tpl Tryd.prog 44 = some (Pl.fs [(0, 1), (1, 1)]) := by kernel_rfl
theorem y65 : tsl Tryd.prog 44 = none := by kernel_rfl
theorem y66 : btag Tryd.prog 44 = 0 := by kernel_rfl
theorem y67 : cty Tryd.prog 9 44 = [none, none] := by kernel_rfl
theorem y68 : tfldt Tryd.prog 44 0 = some (0, 3) := by kernel_rfl
theorem y69 : tfld Tryd.prog 44 0 = some 0 := by kernel_rfl
theorem y70 : tfldt Tryd.prog 44 1 = some (1, 3) := by kernel_rfl
theorem y71 : tfld Tryd.prog 44 1 = some 1 := by kernel_rfl
theorem y72 : tsz Tryd.prog 47 = some 1 := by kernel_rfl
theorem y73 : tagg Tryd.prog 47 = some false := by kernel_rfl
theorem y74 : tzc Tryd.prog 47 = some [M.d (D.v (Value.slice none 0 0))] := by kernel_rfl
theorem y75 : tz Tryd.prog 47 = some [M.d (D.v (Value.slice none 0 0))] := by kernel_rfl
theorem y76 : telem Tryd.prog 47 = some 44 := by kernel_rfl
theorem y77 : tel Tryd.prog 47 = some (2, 16, [M.d (D.v (Value.int IntKind.i64 0)), M.d (D.v (Value.int IntKind.i64 0))]) := by kernel_rfl
theorem y78 : isStr Tryd.prog 47 = false := by kernel_rfl
theorem y79 : isU8 Tryd.prog 47 = false := by kernel_rfl
theorem y80 : tbytes Tryd.prog 47 = false := by kernel_rfl
theorem y81 : tsl Tryd.prog 47 = some 2 := by kernel_rfl
theorem y82 : btag Tryd.prog 47 = 0 := by kernel_rfl
theorem y83 : tsz Tryd.prog 58 = some 1 := by kernel_rfl
theorem y84 : tagg Tryd.prog 58 = some false := by kernel_rfl
theorem y85 : tzc Tryd.prog 58 = some [M.d (D.v (Value.slice none 0 0))] := by kernel_rfl
theorem y86 : tz Tryd.prog 58 = some [M.d (D.v (Value.slice none 0 0))] := by kernel_rfl
theorem y87 : telem Tryd.prog 58 = some 3 := by kernel_rfl
theorem y88 : tel Tryd.prog 58 = some (1, 8, [M.d (D.v (Value.int IntKind.i64 0))]) := by kernel_rfl
theorem y89 : isStr Tryd.prog 58 = false := by kernel_rfl
theorem y90 : isU8 Tryd.prog 58 = false := by kernel_rfl
theorem y91 : tbytes Tryd.prog 58 = false := by kernel_rfl
theorem y92 : tsl Tryd.prog 58 = some 1 := by kernel_rfl
theorem y93 : btag Tryd.prog 58 = 0 := by kernel_rfl
theorem y94 : tsz Tryd.prog 62 = some 1 := by kernel_rfl
theorem y95 : tagg Tryd.prog 62 = some false := by kernel_rfl
theorem y96 : tzc Tryd.prog 62 = some [M.d (D.v (Value.pointer none))] := by kernel_rfl
theorem y97 : tz Tryd.prog 62 = some [M.d (D.v (Value.pointer none))] := by kernel_rfl
theorem y98 : tsl Tryd.prog 62 = none := by kernel_rfl
theorem y99 : btag Tryd.prog 62 = 0 := by kernel_rfl
theorem y100 : tsz Tryd.prog 64 = some 2 := by kernel_rfl
theorem y101 : tagg Tryd.prog 64 = some true := by kernel_rfl
theorem y102 : tzc Tryd.prog 64 = some [M.d (D.v (Value.pointer none)), M.d (D.v (Value.slice none 0 0))] := by kernel_rfl
theorem y103 : tz Tryd.prog 64 = some [M.d (D.v (Value.pointer none)), M.d (D.v (Value.slice none 0 0))] := by kernel_rfl
theorem y104 : tpl Tryd.prog 64 = some (Pl.fs [(0, 1), (1, 1)]) := by kernel_rfl
theorem y105 : tsl Tryd.prog 64 = none := by kernel_rfl
theorem y106 : btag Tryd.prog 64 = 64 := by kernel_rfl
theorem y107 : cty Tryd.prog 9 64 = [none, some 1] := by kernel_rfl
theorem y108 : tfldt Tryd.prog 64 0 = some (0, 62) := by kernel_rfl
theorem y109 : tfld Tryd.prog 64 0 = some 0 := by kernel_rfl
theorem y110 : tfldt Tryd.prog 64 1 = some (1, 27) := by kernel_rfl
theorem y111 : tfld Tryd.prog 64 1 = some 1 := by kernel_rfl
theorem y112 : tsz Tryd.prog 66 = some 1 := by kernel_rfl
theorem y113 : tagg Tryd.prog 66 = some false := by kernel_rfl
theorem y114 : tsl Tryd.prog 66 = none := by kernel_rfl
theorem y115 : btag Tryd.prog 66 = 0 := by kernel_rfl
theorem y116 : tsz Tryd.prog 79 = some 1 := by kernel_rfl
theorem y117 : tagg Tryd.prog 79 = some false := by kernel_rfl
theorem y118 : tzc Tryd.prog 79 = some [M.d (D.v (Value.pointer none))] := by kernel_rfl
theorem y119 : tz Tryd.prog 79 = some [M.d (D.v (Value.pointer none))] := by kernel_rfl
theorem y120 : tsl Tryd.prog 79 = none := by kernel_rfl
theorem y121 : btag Tryd.prog 79 = 0 := by kernel_rfl
theorem mix : Tryd.prog.follows .mixedOrders = true := by kernel_rfl
def tyf0 := And.intro y0 (And.intro y1 (And.intro y2 (And.intro y3 (And.intro y4 (And.intro y5 (And.intro y6 (And.intro y7 (And.intro y8 (And.intro y9 (And.intro y10 (And.intro y11 (And.intro y12 (And.intro y13 (And.intro y14 (y15)))))))))))))))
def tyf1 := And.intro y16 (And.intro y17 (And.intro y18 (And.intro y19 (And.intro y20 (And.intro y21 (And.intro y22 (And.intro y23 (And.intro y24 (And.intro y25 (And.intro y26 (And.intro y27 (And.intro y28 (And.intro y29 (And.intro y30 (y31)))))))))))))))
def tyf2 := And.intro y32 (And.intro y33 (And.intro y34 (And.intro y35 (And.intro y36 (And.intro y37 (And.intro y38 (And.intro y39 (And.intro y40 (And.intro y41 (And.intro y42 (And.intro y43 (And.intro y44 (And.intro y45 (And.intro y46 (y47)))))))))))))))
def tyf3 := And.intro y48 (And.intro y49 (And.intro y50 (And.intro y51 (And.intro y52 (And.intro y53 (And.intro y54 (And.intro y55 (And.intro y56 (And.intro y57 (And.intro y58 (And.intro y59 (And.intro y60 (And.intro y61 (And.intro y62 (y63)))))))))))))))
def tyf4 := And.intro y64 (And.intro y65 (And.intro y66 (And.intro y67 (And.intro y68 (And.intro y69 (And.intro y70 (And.intro y71 (And.intro y72 (And.intro y73 (And.intro y74 (And.intro y75 (And.intro y76 (And.intro y77 (And.intro y78 (y79)))))))))))))))
def tyf5 := And.intro y80 (And.intro y81 (And.intro y82 (And.intro y83 (And.intro y84 (And.intro y85 (And.intro y86 (And.intro y87 (And.intro y88 (And.intro y89 (And.intro y90 (And.intro y91 (And.intro y92 (And.intro y93 (And.intro y94 (y95)))))))))))))))
def tyf6 := And.intro y96 (And.intro y97 (And.intro y98 (And.intro y99 (And.intro y100 (And.intro y101 (And.intro y102 (And.intro y103 (And.intro y104 (And.intro y105 (And.intro y106 (And.intro y107 (And.intro y108 (And.intro y109 (And.intro y110 (y111)))))))))))))))
def tyf7 := And.intro y112 (And.intro y113 (And.intro y114 (And.intro y115 (And.intro y116 (And.intro y117 (And.intro y118 (And.intro y119 (And.intro y120 (y121)))))))))
def tyf := And.intro tyf0 (And.intro tyf1 (And.intro tyf2 (And.intro tyf3 (And.intro tyf4 (And.intro tyf5 (And.intro tyf6 (tyf7)))))))
end Go.Fa
