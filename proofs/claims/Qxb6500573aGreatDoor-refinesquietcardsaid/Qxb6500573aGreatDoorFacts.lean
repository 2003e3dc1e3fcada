/- Closed facts on the program's own types (made by program). -/
import Derived.Test.Qxb6500573aGreatDoorProg
import Derived.Test.Qxb6500573aGreatDoorSlM
namespace Go.Sl
open Go Go.Proofs
theorem mixed : Tryz.prog.follows .mixedOrders = true := by kernel_rfl
theorem fld_29_0 : Fld Tryz.prog 29 0 0 := fld_mk (z := 0) Tryz.underlying29 rfl rfl Tryz.sizeOf3
theorem fld_29_1 : Fld Tryz.prog 29 1 1 := fld_mk (z := 0) Tryz.underlying29 rfl rfl Tryz.sizeOf3
theorem fld_29_2 : Fld Tryz.prog 29 2 2 := fld_mk (z := 0) Tryz.underlying29 rfl rfl Tryz.sizeOf3
theorem fld_29_4 : Fld Tryz.prog 29 4 4 := fld_mk (z := 0) Tryz.underlying29 rfl rfl Tryz.sizeOf9
theorem fld_32_0 : Fld Tryz.prog 32 0 0 := fld_mk (z := 0) Tryz.underlying32 rfl rfl Tryz.sizeOf30
theorem fld_32_1 : Fld Tryz.prog 32 1 1 := fld_mk (z := 0) Tryz.underlying32 rfl rfl Tryz.sizeOf3
theorem fld_32_2 : Fld Tryz.prog 32 2 2 := fld_mk (z := 0) Tryz.underlying32 rfl rfl Tryz.sizeOf3
theorem fld_32_3 : Fld Tryz.prog 32 3 3 := fld_mk (z := 0) Tryz.underlying32 rfl rfl Tryz.sizeOf9
theorem fld_32_4 : Fld Tryz.prog 32 4 4 := fld_mk (z := 0) Tryz.underlying32 rfl rfl Tryz.sizeOf9
theorem fld_42_0 : Fld Tryz.prog 42 0 0 := fld_mk (z := 0) Tryz.underlying42 rfl rfl Tryz.sizeOf3
theorem fld_42_1 : Fld Tryz.prog 42 1 1 := fld_mk (z := 0) Tryz.underlying42 rfl rfl Tryz.sizeOf40
theorem fld_42_2 : Fld Tryz.prog 42 2 2 := fld_mk (z := 0) Tryz.underlying42 rfl rfl Tryz.sizeOf9
theorem fld_69_0 : Fld Tryz.prog 69 0 0 := fld_mk (z := 0) Tryz.underlying69 rfl rfl Tryz.sizeOf56
theorem fld_69_1 : Fld Tryz.prog 69 1 1 := fld_mk (z := 0) Tryz.underlying69 rfl rfl Tryz.sizeOf60
theorem fld_69_2 : Fld Tryz.prog 69 2 2 := fld_mk (z := 0) Tryz.underlying69 rfl rfl Tryz.sizeOf65
theorem fld_69_3 : Fld Tryz.prog 69 3 3 := fld_mk (z := 0) Tryz.underlying69 rfl rfl Tryz.sizeOf66
theorem fld_69_4 : Fld Tryz.prog 69 4 4 := fld_mk (z := 0) Tryz.underlying69 rfl rfl Tryz.sizeOf3
theorem fld_69_5 : Fld Tryz.prog 69 5 5 := fld_mk (z := 0) Tryz.underlying69 rfl rfl Tryz.sizeOf67
theorem fld_71_0 : Fld Tryz.prog 71 0 0 := fld_mk (z := 0) Tryz.underlying71 rfl rfl Tryz.sizeOf67
theorem fld_85_0 : Fld Tryz.prog 85 0 0 := fld_mk (z := 0) Tryz.underlying85 rfl rfl Tryz.sizeOf78
theorem fld_85_1 : Fld Tryz.prog 85 1 1 := fld_mk (z := 0) Tryz.underlying85 rfl rfl Tryz.sizeOf80
theorem fld_85_2 : Fld Tryz.prog 85 2 2 := fld_mk (z := 0) Tryz.underlying85 rfl rfl Tryz.sizeOf82
theorem fld_96_0 : Fld Tryz.prog 96 0 0 := fld_mk (z := 0) Tryz.underlying96 rfl rfl Tryz.sizeOf26
theorem fld_96_1 : Fld Tryz.prog 96 1 1 := fld_mk (z := 0) Tryz.underlying96 rfl rfl Tryz.sizeOf87
theorem fld_96_2 : Fld Tryz.prog 96 2 2 := fld_mk (z := 0) Tryz.underlying96 rfl rfl Tryz.sizeOf3
theorem fld_96_3 : Fld Tryz.prog 96 3 3 := fld_mk (z := 0) Tryz.underlying96 rfl rfl Tryz.sizeOf88
theorem fld_96_4 : Fld Tryz.prog 96 4 4 := fld_mk (z := 0) Tryz.underlying96 rfl rfl Tryz.sizeOf3
theorem fld_96_5 : Fld Tryz.prog 96 5 5 := fld_mk (z := 0) Tryz.underlying96 rfl rfl Tryz.sizeOf89
theorem fld_96_6 : Fld Tryz.prog 96 6 6 := fld_mk (z := 0) Tryz.underlying96 rfl rfl Tryz.sizeOf90
theorem fld_96_7 : Fld Tryz.prog 96 7 7 := fld_mk (z := 0) Tryz.underlying96 rfl rfl Tryz.sizeOf91
theorem fld_96_8 : Fld Tryz.prog 96 8 8 := fld_mk (z := 0) Tryz.underlying96 rfl rfl Tryz.sizeOf92
theorem fld_96_9 : Fld Tryz.prog 96 9 9 := fld_mk (z := 0) Tryz.underlying96 rfl rfl Tryz.sizeOf93
theorem fld_96_10 : Fld Tryz.prog 96 10 10 := fld_mk (z := 0) Tryz.underlying96 rfl rfl Tryz.sizeOf94
theorem fld_99_0 : Fld Tryz.prog 99 0 0 := fld_mk (z := 0) Tryz.underlying99 rfl rfl Tryz.sizeOf5
theorem fld_99_1 : Fld Tryz.prog 99 1 1 := fld_mk (z := 0) Tryz.underlying99 rfl rfl Tryz.sizeOf97
theorem fld_103_0 : Fld Tryz.prog 103 0 0 := fld_mk (z := 0) Tryz.underlying103 rfl rfl Tryz.sizeOf37
theorem fld_103_1 : Fld Tryz.prog 103 1 1 := fld_mk (z := 0) Tryz.underlying103 rfl rfl Tryz.sizeOf101
theorem fld_103_2 : Fld Tryz.prog 103 2 2 := fld_mk (z := 0) Tryz.underlying103 rfl rfl Tryz.sizeOf3
theorem fld_106_0 : Fld Tryz.prog 106 0 0 := fld_mk (z := 0) Tryz.underlying106 rfl rfl Tryz.sizeOf37
theorem fld_106_1 : Fld Tryz.prog 106 1 1 := fld_mk (z := 0) Tryz.underlying106 rfl rfl Tryz.sizeOf104
theorem fld_106_2 : Fld Tryz.prog 106 2 2 := fld_mk (z := 0) Tryz.underlying106 rfl rfl Tryz.sizeOf65
theorem fld_115_0 : Fld Tryz.prog 115 0 0 := fld_mk (z := 0) Tryz.underlying115 rfl rfl Tryz.sizeOf37
theorem fld_115_1 : Fld Tryz.prog 115 1 1 := fld_mk (z := 0) Tryz.underlying115 rfl rfl Tryz.sizeOf54
theorem fld_115_2 : Fld Tryz.prog 115 2 2 := fld_mk (z := 0) Tryz.underlying115 rfl rfl Tryz.sizeOf108
theorem fld_115_3 : Fld Tryz.prog 115 3 3 := fld_mk (z := 0) Tryz.underlying115 rfl rfl Tryz.sizeOf109
theorem fld_115_4 : Fld Tryz.prog 115 4 4 := fld_mk (z := 0) Tryz.underlying115 rfl rfl Tryz.sizeOf90
theorem fld_115_5 : Fld Tryz.prog 115 5 5 := fld_mk (z := 0) Tryz.underlying115 rfl rfl Tryz.sizeOf110
theorem fld_115_6 : Fld Tryz.prog 115 6 6 := fld_mk (z := 0) Tryz.underlying115 rfl rfl Tryz.sizeOf111
theorem fld_115_7 : Fld Tryz.prog 115 7 7 := fld_mk (z := 0) Tryz.underlying115 rfl rfl Tryz.sizeOf112
theorem fld_115_8 : Fld Tryz.prog 115 8 8 := fld_mk (z := 0) Tryz.underlying115 rfl rfl Tryz.sizeOf113
theorem fld_115_9 : Fld Tryz.prog 115 9 9 := fld_mk (z := 0) Tryz.underlying115 rfl rfl Tryz.sizeOf107
theorem fld_115_10 : Fld Tryz.prog 115 10 10 := fld_mk (z := 0) Tryz.underlying115 rfl rfl Tryz.sizeOf3
theorem fld_115_11 : Fld Tryz.prog 115 11 11 := fld_mk (z := 0) Tryz.underlying115 rfl rfl Tryz.sizeOf67
theorem fld_115_12 : Fld Tryz.prog 115 12 12 := fld_mk (z := 0) Tryz.underlying115 rfl rfl Tryz.sizeOf30
theorem fld_117_0 : Fld Tryz.prog 117 0 0 := fld_mk (z := 0) Tryz.underlying117 rfl rfl Tryz.sizeOf58
theorem fld_117_1 : Fld Tryz.prog 117 1 1 := fld_mk (z := 0) Tryz.underlying117 rfl rfl Tryz.sizeOf3
theorem fld_117_2 : Fld Tryz.prog 117 2 2 := fld_mk (z := 0) Tryz.underlying117 rfl rfl Tryz.sizeOf3
theorem fld_122_0 : Fld Tryz.prog 122 0 0 := fld_mk (z := 0) Tryz.underlying122 rfl rfl Tryz.sizeOf65
theorem fld_122_1 : Fld Tryz.prog 122 1 1 := fld_mk (z := 0) Tryz.underlying122 rfl rfl Tryz.sizeOf3
theorem fld_127_0 : Fld Tryz.prog 127 0 0 := fld_mk (z := 0) Tryz.underlying127 rfl rfl Tryz.sizeOf3
theorem fld_127_1 : Fld Tryz.prog 127 1 1 := fld_mk (z := 2) Tryz.underlying127 rfl rfl Tryz.sizeOf42
theorem fld_127_2 : Fld Tryz.prog 127 2 4 := fld_mk (z := 0) Tryz.underlying127 rfl rfl Tryz.sizeOf30
theorem fld_134_0 : Fld Tryz.prog 134 0 0 := fld_mk (z := 0) Tryz.underlying134 rfl rfl Tryz.sizeOf78
theorem fld_134_1 : Fld Tryz.prog 134 1 1 := fld_mk (z := 0) Tryz.underlying134 rfl rfl Tryz.sizeOf132
theorem fld_136_0 : Fld Tryz.prog 136 0 0 := fld_mk (z := 0) Tryz.underlying136 rfl rfl Tryz.sizeOf78
theorem fld_142_0 : Fld Tryz.prog 142 0 0 := fld_mk (z := 0) Tryz.underlying142 rfl rfl Tryz.sizeOf78
theorem fld_142_1 : Fld Tryz.prog 142 1 1 := fld_mk (z := 0) Tryz.underlying142 rfl rfl Tryz.sizeOf80
theorem fld_142_2 : Fld Tryz.prog 142 2 2 := fld_mk (z := 0) Tryz.underlying142 rfl rfl Tryz.sizeOf65
theorem fld_142_3 : Fld Tryz.prog 142 3 3 := fld_mk (z := 0) Tryz.underlying142 rfl rfl Tryz.sizeOf3
theorem fld_142_4 : Fld Tryz.prog 142 4 4 := fld_mk (z := 0) Tryz.underlying142 rfl rfl Tryz.sizeOf138
theorem fld_142_5 : Fld Tryz.prog 142 5 5 := fld_mk (z := 0) Tryz.underlying142 rfl rfl Tryz.sizeOf139
theorem fld_142_6 : Fld Tryz.prog 142 6 6 := fld_mk (z := 4) Tryz.underlying142 rfl rfl Tryz.sizeOf140
theorem fld_142_7 : Fld Tryz.prog 142 7 11 := fld_mk (z := 0) Tryz.underlying142 rfl rfl Tryz.sizeOf3
theorem fld_142_8 : Fld Tryz.prog 142 8 12 := fld_mk (z := 0) Tryz.underlying142 rfl rfl Tryz.sizeOf3
theorem fld_142_9 : Fld Tryz.prog 142 9 13 := fld_mk (z := 0) Tryz.underlying142 rfl rfl Tryz.sizeOf3
theorem fld_142_10 : Fld Tryz.prog 142 10 14 := fld_mk (z := 0) Tryz.underlying142 rfl rfl Tryz.sizeOf3
theorem fld_142_11 : Fld Tryz.prog 142 11 15 := fld_mk (z := 0) Tryz.underlying142 rfl rfl Tryz.sizeOf9
theorem fld_142_12 : Fld Tryz.prog 142 12 16 := fld_mk (z := 0) Tryz.underlying142 rfl rfl Tryz.sizeOf4
theorem fld_142_13 : Fld Tryz.prog 142 13 17 := fld_mk (z := 4) Tryz.underlying142 rfl rfl Tryz.sizeOf32
theorem fld_148_0 : Fld Tryz.prog 148 0 0 := fld_mk (z := 0) Tryz.underlying148 rfl rfl Tryz.sizeOf3
theorem fld_148_1 : Fld Tryz.prog 148 1 1 := fld_mk (z := 0) Tryz.underlying148 rfl rfl Tryz.sizeOf146
theorem fld_152_0 : Fld Tryz.prog 152 0 0 := fld_mk (z := 0) Tryz.underlying152 rfl rfl Tryz.sizeOf3
theorem fld_152_1 : Fld Tryz.prog 152 1 1 := fld_mk (z := 0) Tryz.underlying152 rfl rfl Tryz.sizeOf3
theorem fld_152_2 : Fld Tryz.prog 152 2 2 := fld_mk (z := 0) Tryz.underlying152 rfl rfl Tryz.sizeOf3
theorem fld_152_3 : Fld Tryz.prog 152 3 3 := fld_mk (z := 0) Tryz.underlying152 rfl rfl Tryz.sizeOf150
theorem fld_152_4 : Fld Tryz.prog 152 4 4 := fld_mk (z := 0) Tryz.underlying152 rfl rfl Tryz.sizeOf90
theorem fld_156_0 : Fld Tryz.prog 156 0 0 := fld_mk (z := 0) Tryz.underlying156 rfl rfl Tryz.sizeOf154
theorem fld_156_1 : Fld Tryz.prog 156 1 1 := fld_mk (z := 0) Tryz.underlying156 rfl rfl Tryz.sizeOf3
theorem fld_156_2 : Fld Tryz.prog 156 2 2 := fld_mk (z := 0) Tryz.underlying156 rfl rfl Tryz.sizeOf9
theorem fld_156_3 : Fld Tryz.prog 156 3 3 := fld_mk (z := 0) Tryz.underlying156 rfl rfl Tryz.sizeOf40
theorem fld_156_4 : Fld Tryz.prog 156 4 4 := fld_mk (z := 0) Tryz.underlying156 rfl rfl Tryz.sizeOf30
theorem fld_158_0 : Fld Tryz.prog 158 0 0 := fld_mk (z := 0) Tryz.underlying158 rfl rfl Tryz.sizeOf3
theorem fld_158_1 : Fld Tryz.prog 158 1 1 := fld_mk (z := 0) Tryz.underlying158 rfl rfl Tryz.sizeOf3
theorem fld_158_2 : Fld Tryz.prog 158 2 2 := fld_mk (z := 0) Tryz.underlying158 rfl rfl Tryz.sizeOf3
theorem fld_158_3 : Fld Tryz.prog 158 3 3 := fld_mk (z := 0) Tryz.underlying158 rfl rfl Tryz.sizeOf3
theorem fld_158_4 : Fld Tryz.prog 158 4 4 := fld_mk (z := 0) Tryz.underlying158 rfl rfl Tryz.sizeOf3
theorem fld_158_5 : Fld Tryz.prog 158 5 5 := fld_mk (z := 0) Tryz.underlying158 rfl rfl Tryz.sizeOf40
theorem fld_158_6 : Fld Tryz.prog 158 6 6 := fld_mk (z := 0) Tryz.underlying158 rfl rfl Tryz.sizeOf9
theorem fld_158_7 : Fld Tryz.prog 158 7 7 := fld_mk (z := 0) Tryz.underlying158 rfl rfl Tryz.sizeOf3
theorem fld_163_0 : Fld Tryz.prog 163 0 0 := fld_mk (z := 0) Tryz.underlying163 rfl rfl Tryz.sizeOf3
theorem fld_163_1 : Fld Tryz.prog 163 1 1 := fld_mk (z := 0) Tryz.underlying163 rfl rfl Tryz.sizeOf161
theorem fld_168_0 : Fld Tryz.prog 168 0 0 := fld_mk (z := 0) Tryz.underlying168 rfl rfl Tryz.sizeOf3
theorem fld_168_1 : Fld Tryz.prog 168 1 1 := fld_mk (z := 0) Tryz.underlying168 rfl rfl Tryz.sizeOf3
theorem fld_170_0 : Fld Tryz.prog 170 0 0 := fld_mk (z := 0) Tryz.underlying170 rfl rfl Tryz.sizeOf104
theorem fld_170_1 : Fld Tryz.prog 170 1 1 := fld_mk (z := 0) Tryz.underlying170 rfl rfl Tryz.sizeOf3
theorem fld_170_2 : Fld Tryz.prog 170 2 2 := fld_mk (z := 4) Tryz.underlying170 rfl rfl Tryz.sizeOf156
theorem fld_170_3 : Fld Tryz.prog 170 3 7 := fld_mk (z := 1) Tryz.underlying170 rfl rfl Tryz.sizeOf168
theorem fld_170_4 : Fld Tryz.prog 170 4 9 := fld_mk (z := 0) Tryz.underlying170 rfl rfl Tryz.sizeOf3
theorem fld_170_5 : Fld Tryz.prog 170 5 10 := fld_mk (z := 0) Tryz.underlying170 rfl rfl Tryz.sizeOf30
theorem fld_170_6 : Fld Tryz.prog 170 6 11 := fld_mk (z := 0) Tryz.underlying170 rfl rfl Tryz.sizeOf3
theorem fld_181_0 : Fld Tryz.prog 181 0 0 := fld_mk (z := 0) Tryz.underlying181 rfl rfl Tryz.sizeOf3
theorem fld_181_1 : Fld Tryz.prog 181 1 1 := fld_mk (z := 0) Tryz.underlying181 rfl rfl Tryz.sizeOf3
theorem fld_181_2 : Fld Tryz.prog 181 2 2 := fld_mk (z := 0) Tryz.underlying181 rfl rfl Tryz.sizeOf3
theorem fld_184_0 : Fld Tryz.prog 184 0 0 := fld_mk (z := 0) Tryz.underlying184 rfl rfl Tryz.sizeOf3
theorem fld_184_1 : Fld Tryz.prog 184 1 1 := fld_mk (z := 0) Tryz.underlying184 rfl rfl Tryz.sizeOf3
theorem fld_184_2 : Fld Tryz.prog 184 2 2 := fld_mk (z := 0) Tryz.underlying184 rfl rfl Tryz.sizeOf30
theorem fld_184_3 : Fld Tryz.prog 184 3 3 := fld_mk (z := 2) Tryz.underlying184 rfl rfl Tryz.sizeOf42
theorem fld_193_0 : Fld Tryz.prog 193 0 0 := fld_mk (z := 0) Tryz.underlying193 rfl rfl Tryz.sizeOf3
theorem fld_193_1 : Fld Tryz.prog 193 1 1 := fld_mk (z := 0) Tryz.underlying193 rfl rfl Tryz.sizeOf9
theorem fld_193_2 : Fld Tryz.prog 193 2 2 := fld_mk (z := 0) Tryz.underlying193 rfl rfl Tryz.sizeOf40
theorem fld_193_3 : Fld Tryz.prog 193 3 3 := fld_mk (z := 0) Tryz.underlying193 rfl rfl Tryz.sizeOf3
theorem fld_193_4 : Fld Tryz.prog 193 4 4 := fld_mk (z := 0) Tryz.underlying193 rfl rfl Tryz.sizeOf30
theorem fld_195_0 : Fld Tryz.prog 195 0 0 := fld_mk (z := 0) Tryz.underlying195 rfl rfl Tryz.sizeOf78
theorem fld_195_1 : Fld Tryz.prog 195 1 1 := fld_mk (z := 0) Tryz.underlying195 rfl rfl Tryz.sizeOf9
theorem fld_195_2 : Fld Tryz.prog 195 2 2 := fld_mk (z := 0) Tryz.underlying195 rfl rfl Tryz.sizeOf3
theorem fld_195_3 : Fld Tryz.prog 195 3 3 := fld_mk (z := 4) Tryz.underlying195 rfl rfl Tryz.sizeOf193
theorem fld_195_4 : Fld Tryz.prog 195 4 8 := fld_mk (z := 0) Tryz.underlying195 rfl rfl Tryz.sizeOf65
theorem fld_195_5 : Fld Tryz.prog 195 5 9 := fld_mk (z := 0) Tryz.underlying195 rfl rfl Tryz.sizeOf30
theorem fld_195_6 : Fld Tryz.prog 195 6 10 := fld_mk (z := 0) Tryz.underlying195 rfl rfl Tryz.sizeOf3
theorem fld_195_7 : Fld Tryz.prog 195 7 11 := fld_mk (z := 0) Tryz.underlying195 rfl rfl Tryz.sizeOf3
theorem fld_195_8 : Fld Tryz.prog 195 8 12 := fld_mk (z := 0) Tryz.underlying195 rfl rfl Tryz.sizeOf3
theorem fld_195_9 : Fld Tryz.prog 195 9 13 := fld_mk (z := 0) Tryz.underlying195 rfl rfl Tryz.sizeOf3
theorem fld_199_0 : Fld Tryz.prog 199 0 0 := fld_mk (z := 2) Tryz.underlying199 rfl rfl Tryz.sizeOf42
theorem fld_199_1 : Fld Tryz.prog 199 1 3 := fld_mk (z := 2) Tryz.underlying199 rfl rfl Tryz.sizeOf42
theorem fld_204_0 : Fld Tryz.prog 204 0 0 := fld_mk (z := 0) Tryz.underlying204 rfl rfl Tryz.sizeOf9
theorem fld_204_1 : Fld Tryz.prog 204 1 1 := fld_mk (z := 2) Tryz.underlying204 rfl rfl Tryz.sizeOf42
theorem fld_204_2 : Fld Tryz.prog 204 2 4 := fld_mk (z := 0) Tryz.underlying204 rfl rfl Tryz.sizeOf146
theorem fld_206_0 : Fld Tryz.prog 206 0 0 := fld_mk (z := 0) Tryz.underlying206 rfl rfl Tryz.sizeOf3
theorem fld_206_1 : Fld Tryz.prog 206 1 1 := fld_mk (z := 0) Tryz.underlying206 rfl rfl Tryz.sizeOf3
theorem fld_206_2 : Fld Tryz.prog 206 2 2 := fld_mk (z := 0) Tryz.underlying206 rfl rfl Tryz.sizeOf3
theorem fld_206_3 : Fld Tryz.prog 206 3 3 := fld_mk (z := 0) Tryz.underlying206 rfl rfl Tryz.sizeOf146
theorem fld_245_0 : Fld Tryz.prog 245 0 0 := fld_mk (z := 0) Tryz.underlying245 rfl rfl Tryz.sizeOf240
theorem fld_245_1 : Fld Tryz.prog 245 1 1 := fld_mk (z := 0) Tryz.underlying245 rfl rfl Tryz.sizeOf241
theorem fld_245_2 : Fld Tryz.prog 245 2 2 := fld_mk (z := 0) Tryz.underlying245 rfl rfl Tryz.sizeOf242
theorem fld_245_3 : Fld Tryz.prog 245 3 3 := fld_mk (z := 0) Tryz.underlying245 rfl rfl Tryz.sizeOf243
theorem fld_245_4 : Fld Tryz.prog 245 4 4 := fld_mk (z := 0) Tryz.underlying245 rfl rfl Tryz.sizeOf242
theorem fld_245_5 : Fld Tryz.prog 245 5 5 := fld_mk (z := 0) Tryz.underlying245 rfl rfl Tryz.sizeOf3
theorem fld_248_0 : Fld Tryz.prog 248 0 0 := fld_mk (z := 0) Tryz.underlying248 rfl rfl Tryz.sizeOf67
theorem fld_248_1 : Fld Tryz.prog 248 1 1 := fld_mk (z := 0) Tryz.underlying248 rfl rfl Tryz.sizeOf3
theorem fld_248_2 : Fld Tryz.prog 248 2 2 := fld_mk (z := 0) Tryz.underlying248 rfl rfl Tryz.sizeOf4
theorem fld_252_0 : Fld Tryz.prog 252 0 0 := fld_mk (z := 0) Tryz.underlying252 rfl rfl Tryz.sizeOf3
theorem fld_252_1 : Fld Tryz.prog 252 1 1 := fld_mk (z := 0) Tryz.underlying252 rfl rfl Tryz.sizeOf3
theorem fld_252_2 : Fld Tryz.prog 252 2 2 := fld_mk (z := 0) Tryz.underlying252 rfl rfl Tryz.sizeOf3
theorem fld_252_3 : Fld Tryz.prog 252 3 3 := fld_mk (z := 0) Tryz.underlying252 rfl rfl Tryz.sizeOf3
theorem fld_252_4 : Fld Tryz.prog 252 4 4 := fld_mk (z := 0) Tryz.underlying252 rfl rfl Tryz.sizeOf3
theorem fld_252_5 : Fld Tryz.prog 252 5 5 := fld_mk (z := 0) Tryz.underlying252 rfl rfl Tryz.sizeOf3
theorem fld_252_6 : Fld Tryz.prog 252 6 6 := fld_mk (z := 0) Tryz.underlying252 rfl rfl Tryz.sizeOf3
theorem fld_252_7 : Fld Tryz.prog 252 7 7 := fld_mk (z := 0) Tryz.underlying252 rfl rfl Tryz.sizeOf3
theorem fld_257_0 : Fld Tryz.prog 257 0 0 := fld_mk (z := 2) Tryz.underlying257 rfl rfl Tryz.sizeOf42
theorem fld_257_1 : Fld Tryz.prog 257 1 3 := fld_mk (z := 2) Tryz.underlying257 rfl rfl Tryz.sizeOf42
theorem fld_263_0 : Fld Tryz.prog 263 0 0 := fld_mk (z := 0) Tryz.underlying263 rfl rfl Tryz.sizeOf3
theorem fld_263_1 : Fld Tryz.prog 263 1 1 := fld_mk (z := 0) Tryz.underlying263 rfl rfl Tryz.sizeOf3
theorem fld_263_2 : Fld Tryz.prog 263 2 2 := fld_mk (z := 0) Tryz.underlying263 rfl rfl Tryz.sizeOf90
theorem fld_263_3 : Fld Tryz.prog 263 3 3 := fld_mk (z := 0) Tryz.underlying263 rfl rfl Tryz.sizeOf261
theorem fld_263_4 : Fld Tryz.prog 263 4 4 := fld_mk (z := 0) Tryz.underlying263 rfl rfl Tryz.sizeOf112
theorem fld_287_0 : Fld Tryz.prog 287 0 0 := fld_mk (z := 0) Tryz.underlying287 rfl rfl Tryz.sizeOf3
theorem fld_287_1 : Fld Tryz.prog 287 1 1 := fld_mk (z := 0) Tryz.underlying287 rfl rfl Tryz.sizeOf3
theorem fld_287_2 : Fld Tryz.prog 287 2 2 := fld_mk (z := 2) Tryz.underlying287 rfl rfl Tryz.sizeOf42
theorem fld_297_0 : Fld Tryz.prog 297 0 0 := fld_mk (z := 0) Tryz.underlying297 rfl rfl Tryz.sizeOf3
theorem fld_297_1 : Fld Tryz.prog 297 1 1 := fld_mk (z := 0) Tryz.underlying297 rfl rfl Tryz.sizeOf292
theorem fld_297_2 : Fld Tryz.prog 297 2 2 := fld_mk (z := 0) Tryz.underlying297 rfl rfl Tryz.sizeOf172
theorem fld_299_0 : Fld Tryz.prog 299 0 0 := fld_mk (z := 0) Tryz.underlying299 rfl rfl Tryz.sizeOf3
theorem fld_306_0 : Fld Tryz.prog 306 0 0 := fld_mk (z := 0) Tryz.underlying306 rfl rfl Tryz.sizeOf302
theorem fld_311_0 : Fld Tryz.prog 311 0 0 := fld_mk (z := 0) Tryz.underlying311 rfl rfl Tryz.sizeOf3
theorem fld_311_1 : Fld Tryz.prog 311 1 1 := fld_mk (z := 0) Tryz.underlying311 rfl rfl Tryz.sizeOf292
theorem fld_311_2 : Fld Tryz.prog 311 2 2 := fld_mk (z := 0) Tryz.underlying311 rfl rfl Tryz.sizeOf292
theorem fld_321_0 : Fld Tryz.prog 321 0 0 := fld_mk (z := 0) Tryz.underlying321 rfl rfl Tryz.sizeOf5
theorem fld_321_1 : Fld Tryz.prog 321 1 1 := fld_mk (z := 0) Tryz.underlying321 rfl rfl Tryz.sizeOf5
theorem fld_331_0 : Fld Tryz.prog 331 0 0 := fld_mk (z := 0) Tryz.underlying331 rfl rfl Tryz.sizeOf3
theorem fld_331_1 : Fld Tryz.prog 331 1 1 := fld_mk (z := 0) Tryz.underlying331 rfl rfl Tryz.sizeOf3
theorem fld_331_2 : Fld Tryz.prog 331 2 2 := fld_mk (z := 0) Tryz.underlying331 rfl rfl Tryz.sizeOf3
theorem fld_331_3 : Fld Tryz.prog 331 3 3 := fld_mk (z := 0) Tryz.underlying331 rfl rfl Tryz.sizeOf3
theorem fld_331_4 : Fld Tryz.prog 331 4 4 := fld_mk (z := 0) Tryz.underlying331 rfl rfl Tryz.sizeOf4
theorem fld_335_0 : Fld Tryz.prog 335 0 0 := fld_mk (z := 2) Tryz.underlying335 rfl rfl Tryz.sizeOf42
theorem fld_358_0 : Fld Tryz.prog 358 0 0 := fld_mk (z := 0) Tryz.underlying358 rfl rfl Tryz.sizeOf3
theorem fld_358_1 : Fld Tryz.prog 358 1 1 := fld_mk (z := 0) Tryz.underlying358 rfl rfl Tryz.sizeOf9
theorem fld_361_0 : Fld Tryz.prog 361 0 0 := fld_mk (z := 0) Tryz.underlying361 rfl rfl Tryz.sizeOf307
theorem fld_361_1 : Fld Tryz.prog 361 1 1 := fld_mk (z := 0) Tryz.underlying361 rfl rfl Tryz.sizeOf355
theorem fld_365_0 : Fld Tryz.prog 365 0 0 := fld_mk (z := 0) Tryz.underlying365 rfl rfl Tryz.sizeOf172
theorem fld_365_1 : Fld Tryz.prog 365 1 1 := fld_mk (z := 0) Tryz.underlying365 rfl rfl Tryz.sizeOf292
theorem fld_368_0 : Fld Tryz.prog 368 0 0 := fld_mk (z := 0) Tryz.underlying368 rfl rfl Tryz.sizeOf3
theorem fld_368_1 : Fld Tryz.prog 368 1 1 := fld_mk (z := 0) Tryz.underlying368 rfl rfl Tryz.sizeOf292
theorem fld_368_2 : Fld Tryz.prog 368 2 2 := fld_mk (z := 0) Tryz.underlying368 rfl rfl Tryz.sizeOf172
theorem fld_368_3 : Fld Tryz.prog 368 3 3 := fld_mk (z := 0) Tryz.underlying368 rfl rfl Tryz.sizeOf172
theorem fld_371_0 : Fld Tryz.prog 371 0 0 := fld_mk (z := 0) Tryz.underlying371 rfl rfl Tryz.sizeOf172
theorem fld_371_1 : Fld Tryz.prog 371 1 1 := fld_mk (z := 0) Tryz.underlying371 rfl rfl Tryz.sizeOf292
theorem fld_371_2 : Fld Tryz.prog 371 2 2 := fld_mk (z := 0) Tryz.underlying371 rfl rfl Tryz.sizeOf172
theorem fld_374_0 : Fld Tryz.prog 374 0 0 := fld_mk (z := 0) Tryz.underlying374 rfl rfl Tryz.sizeOf307
theorem fld_374_1 : Fld Tryz.prog 374 1 1 := fld_mk (z := 0) Tryz.underlying374 rfl rfl Tryz.sizeOf172
theorem fld_374_2 : Fld Tryz.prog 374 2 2 := fld_mk (z := 0) Tryz.underlying374 rfl rfl Tryz.sizeOf172
theorem fld_376_0 : Fld Tryz.prog 376 0 0 := fld_mk (z := 0) Tryz.underlying376 rfl rfl Tryz.sizeOf3
theorem fld_376_1 : Fld Tryz.prog 376 1 1 := fld_mk (z := 0) Tryz.underlying376 rfl rfl Tryz.sizeOf3
theorem fld_376_2 : Fld Tryz.prog 376 2 2 := fld_mk (z := 0) Tryz.underlying376 rfl rfl Tryz.sizeOf40
theorem fld_380_0 : Fld Tryz.prog 380 0 0 := fld_mk (z := 0) Tryz.underlying380 rfl rfl Tryz.sizeOf3
theorem fld_380_1 : Fld Tryz.prog 380 1 1 := fld_mk (z := 0) Tryz.underlying380 rfl rfl Tryz.sizeOf3
theorem fld_380_2 : Fld Tryz.prog 380 2 2 := fld_mk (z := 0) Tryz.underlying380 rfl rfl Tryz.sizeOf40
theorem fld_380_3 : Fld Tryz.prog 380 3 3 := fld_mk (z := 0) Tryz.underlying380 rfl rfl Tryz.sizeOf292
theorem fld_380_4 : Fld Tryz.prog 380 4 4 := fld_mk (z := 0) Tryz.underlying380 rfl rfl Tryz.sizeOf292
theorem fld_382_0 : Fld Tryz.prog 382 0 0 := fld_mk (z := 0) Tryz.underlying382 rfl rfl Tryz.sizeOf3
theorem fld_382_1 : Fld Tryz.prog 382 1 1 := fld_mk (z := 0) Tryz.underlying382 rfl rfl Tryz.sizeOf292
theorem fld_382_2 : Fld Tryz.prog 382 2 2 := fld_mk (z := 0) Tryz.underlying382 rfl rfl Tryz.sizeOf292
theorem fld_384_0 : Fld Tryz.prog 384 0 0 := fld_mk (z := 0) Tryz.underlying384 rfl rfl Tryz.sizeOf3
theorem fld_384_1 : Fld Tryz.prog 384 1 1 := fld_mk (z := 0) Tryz.underlying384 rfl rfl Tryz.sizeOf9
theorem fld_386_0 : Fld Tryz.prog 386 0 0 := fld_mk (z := 0) Tryz.underlying386 rfl rfl Tryz.sizeOf3
theorem fld_386_1 : Fld Tryz.prog 386 1 1 := fld_mk (z := 0) Tryz.underlying386 rfl rfl Tryz.sizeOf292
theorem fld_386_2 : Fld Tryz.prog 386 2 2 := fld_mk (z := 0) Tryz.underlying386 rfl rfl Tryz.sizeOf292
theorem fld_389_0 : Fld Tryz.prog 389 0 0 := fld_mk (z := 0) Tryz.underlying389 rfl rfl Tryz.sizeOf3
theorem fld_389_1 : Fld Tryz.prog 389 1 1 := fld_mk (z := 0) Tryz.underlying389 rfl rfl Tryz.sizeOf292
theorem fld_389_2 : Fld Tryz.prog 389 2 2 := fld_mk (z := 0) Tryz.underlying389 rfl rfl Tryz.sizeOf172
theorem fld_392_0 : Fld Tryz.prog 392 0 0 := fld_mk (z := 0) Tryz.underlying392 rfl rfl Tryz.sizeOf3
theorem fld_392_1 : Fld Tryz.prog 392 1 1 := fld_mk (z := 0) Tryz.underlying392 rfl rfl Tryz.sizeOf3
theorem fld_395_0 : Fld Tryz.prog 395 0 0 := fld_mk (z := 0) Tryz.underlying395 rfl rfl Tryz.sizeOf3
theorem fld_395_1 : Fld Tryz.prog 395 1 1 := fld_mk (z := 0) Tryz.underlying395 rfl rfl Tryz.sizeOf40
theorem fld_397_0 : Fld Tryz.prog 397 0 0 := fld_mk (z := 0) Tryz.underlying397 rfl rfl Tryz.sizeOf3
theorem fld_397_1 : Fld Tryz.prog 397 1 1 := fld_mk (z := 0) Tryz.underlying397 rfl rfl Tryz.sizeOf3
theorem fld_397_2 : Fld Tryz.prog 397 2 2 := fld_mk (z := 0) Tryz.underlying397 rfl rfl Tryz.sizeOf172
theorem fld_397_3 : Fld Tryz.prog 397 3 3 := fld_mk (z := 0) Tryz.underlying397 rfl rfl Tryz.sizeOf172
theorem fld_400_0 : Fld Tryz.prog 400 0 0 := fld_mk (z := 0) Tryz.underlying400 rfl rfl Tryz.sizeOf3
theorem fld_400_1 : Fld Tryz.prog 400 1 1 := fld_mk (z := 0) Tryz.underlying400 rfl rfl Tryz.sizeOf172
theorem fld_403_0 : Fld Tryz.prog 403 0 0 := fld_mk (z := 0) Tryz.underlying403 rfl rfl Tryz.sizeOf3
theorem fld_403_1 : Fld Tryz.prog 403 1 1 := fld_mk (z := 0) Tryz.underlying403 rfl rfl Tryz.sizeOf40
theorem fld_403_2 : Fld Tryz.prog 403 2 2 := fld_mk (z := 0) Tryz.underlying403 rfl rfl Tryz.sizeOf292
theorem el_22 : El Tryz.prog 22 29 6 64 [.int .i64 0, .int .i64 0, .int .i64 0, .int .i64 0, .string ⟨⟨[]⟩⟩, .string ⟨⟨[]⟩⟩] := ⟨Tryz.underlying22, ⟨_, _, (by kernel_rfl : Tryz.prog.info? 29 = some Tryz.t29), rfl, rfl, rfl, rfl⟩, rfl, by decide⟩
theorem el_65 : El Tryz.prog 65 158 8 72 [.int .i64 0, .int .i64 0, .int .i64 0, .int .i64 0, .int .i64 0, .int .u64 0, .string ⟨⟨[]⟩⟩, .int .i64 0] := ⟨Tryz.underlying65, ⟨_, _, (by kernel_rfl : Tryz.prog.info? 158 = some Tryz.t158), rfl, rfl, rfl, rfl⟩, rfl, by decide⟩
theorem el_66 : El Tryz.prog 66 96 11 168 [.pointer none, .pointer none, .int .i64 0, .slice none 0 0, .int .i64 0, .slice none 0 0, .slice none 0 0, .map none, .map none, .slice none 0 0, .slice none 0 0] := ⟨Tryz.underlying66, ⟨_, _, (by kernel_rfl : Tryz.prog.info? 96 = some Tryz.t96), rfl, rfl, rfl, rfl⟩, rfl, by decide⟩
theorem el_67 : El Tryz.prog 67 5 1 1 [.int .u8 0] := ⟨Tryz.underlying67, ⟨_, _, (by kernel_rfl : Tryz.prog.info? 5 = some Tryz.t5), rfl, rfl, rfl, rfl⟩, rfl, by decide⟩
theorem el_88 : El Tryz.prog 88 9 1 16 [.string ⟨⟨[]⟩⟩] := ⟨Tryz.underlying88, ⟨_, _, (by kernel_rfl : Tryz.prog.info? 9 = some Tryz.t9), rfl, rfl, rfl, rfl⟩, rfl, by decide⟩
theorem el_89 : El Tryz.prog 89 159 2 2 [.int .u8 0, .int .u8 0] := ⟨Tryz.underlying89, ⟨_, _, (by kernel_rfl : Tryz.prog.info? 159 = some Tryz.t159), rfl, rfl, rfl, rfl⟩, rfl, by decide⟩
theorem el_90 : El Tryz.prog 90 42 3 32 [.int .i64 0, .int .u64 0, .string ⟨⟨[]⟩⟩] := ⟨Tryz.underlying90, ⟨_, _, (by kernel_rfl : Tryz.prog.info? 42 = some Tryz.t42), rfl, rfl, rfl, rfl⟩, rfl, by decide⟩
theorem el_93 : El Tryz.prog 93 99 2 4 [.int .u8 0, .int .u16 0] := ⟨Tryz.underlying93, ⟨_, _, (by kernel_rfl : Tryz.prog.info? 99 = some Tryz.t99), rfl, rfl, rfl, rfl⟩, rfl, by decide⟩
theorem el_94 : El Tryz.prog 94 163 2 32 [.int .i64 0, .slice none 0 0] := ⟨Tryz.underlying94, ⟨_, _, (by kernel_rfl : Tryz.prog.info? 163 = some Tryz.t163), rfl, rfl, rfl, rfl⟩, rfl, by decide⟩
theorem el_101 : El Tryz.prog 101 245 6 80 [.slice none 0 0, .slice none 0 0, .map none, .map none, .map none, .int .i64 0] := ⟨Tryz.underlying101, ⟨_, _, (by kernel_rfl : Tryz.prog.info? 245 = some Tryz.t245), rfl, rfl, rfl, rfl⟩, rfl, by decide⟩
theorem el_104 : El Tryz.prog 104 156 5 48 [.int .i64 0, .int .i64 0, .string ⟨⟨[]⟩⟩, .int .u64 0, .int .i64 0] := ⟨Tryz.underlying104, ⟨_, _, (by kernel_rfl : Tryz.prog.info? 156 = some Tryz.t156), rfl, rfl, rfl, rfl⟩, rfl, by decide⟩
theorem el_107 : El Tryz.prog 107 263 5 88 [.int .i64 0, .int .i64 0, .slice none 0 0, .slice none 0 0, .slice none 0 0] := ⟨Tryz.underlying107, ⟨_, _, (by kernel_rfl : Tryz.prog.info? 263 = some Tryz.t263), rfl, rfl, rfl, rfl⟩, rfl, by decide⟩
theorem el_108 : El Tryz.prog 108 252 8 64 [.int .i64 0, .int .i64 0, .int .i64 0, .int .i64 0, .int .i64 0, .int .i64 0, .int .i64 0, .int .i64 0] := ⟨Tryz.underlying108, ⟨_, _, (by kernel_rfl : Tryz.prog.info? 252 = some Tryz.t252), rfl, rfl, rfl, rfl⟩, rfl, by decide⟩
theorem el_109 : El Tryz.prog 109 321 2 2 [.int .u8 0, .int .u8 0] := ⟨Tryz.underlying109, ⟨_, _, (by kernel_rfl : Tryz.prog.info? 321 = some Tryz.t321), rfl, rfl, rfl, rfl⟩, rfl, by decide⟩
theorem el_110 : El Tryz.prog 110 324 2 4 [.int .u8 0, .int .u16 0] := ⟨Tryz.underlying110, ⟨_, _, (by kernel_rfl : Tryz.prog.info? 324 = some Tryz.t324), rfl, rfl, rfl, rfl⟩, rfl, by decide⟩
theorem el_111 : El Tryz.prog 111 181 3 24 [.int .i64 0, .int .i64 0, .int .i64 0] := ⟨Tryz.underlying111, ⟨_, _, (by kernel_rfl : Tryz.prog.info? 181 = some Tryz.t181), rfl, rfl, rfl, rfl⟩, rfl, by decide⟩
theorem el_112 : El Tryz.prog 112 3 1 8 [.int .i64 0] := ⟨Tryz.underlying112, ⟨_, _, (by kernel_rfl : Tryz.prog.info? 3 = some Tryz.t3), rfl, rfl, rfl, rfl⟩, rfl, by decide⟩
theorem el_113 : El Tryz.prog 113 287 5 48 [.int .i64 0, .int .i64 0, .int .i64 0, .int .u64 0, .string ⟨⟨[]⟩⟩] := ⟨Tryz.underlying113, ⟨_, _, (by kernel_rfl : Tryz.prog.info? 287 = some Tryz.t287), rfl, rfl, rfl, rfl⟩, rfl, by decide⟩
theorem el_132 : El Tryz.prog 132 200 1 24 [.slice none 0 0] := ⟨Tryz.underlying132, ⟨_, _, (by kernel_rfl : Tryz.prog.info? 200 = some Tryz.t200), rfl, rfl, rfl, rfl⟩, rfl, by decide⟩
theorem el_138 : El Tryz.prog 138 148 2 16 [.int .i64 0, .pointer none] := ⟨Tryz.underlying138, ⟨_, _, (by kernel_rfl : Tryz.prog.info? 148 = some Tryz.t148), rfl, rfl, rfl, rfl⟩, rfl, by decide⟩
theorem el_139 : El Tryz.prog 139 149 1 8 [.pointer none] := ⟨Tryz.underlying139, ⟨_, _, (by kernel_rfl : Tryz.prog.info? 149 = some Tryz.t149), rfl, rfl, rfl, rfl⟩, rfl, by decide⟩
theorem el_150 : El Tryz.prog 150 206 4 32 [.int .i64 0, .int .i64 0, .int .i64 0, .pointer none] := ⟨Tryz.underlying150, ⟨_, _, (by kernel_rfl : Tryz.prog.info? 206 = some Tryz.t206), rfl, rfl, rfl, rfl⟩, rfl, by decide⟩
theorem el_161 : El Tryz.prog 161 1 1 8 [.nilFunc] := ⟨Tryz.underlying161, ⟨_, _, (by kernel_rfl : Tryz.prog.info? 1 = some Tryz.t1), rfl, rfl, rfl, rfl⟩, rfl, by decide⟩
theorem el_172 : El Tryz.prog 172 236 1 16 [.nilIface] := ⟨Tryz.underlying172, ⟨_, _, (by kernel_rfl : Tryz.prog.info? 236 = some Tryz.t236), rfl, rfl, rfl, rfl⟩, rfl, by decide⟩
theorem el_200 : El Tryz.prog 200 199 6 64 [.int .i64 0, .int .u64 0, .string ⟨⟨[]⟩⟩, .int .i64 0, .int .u64 0, .string ⟨⟨[]⟩⟩] := ⟨Tryz.underlying200, ⟨_, _, (by kernel_rfl : Tryz.prog.info? 199 = some Tryz.t199), rfl, rfl, rfl, rfl⟩, rfl, by decide⟩
theorem el_240 : El Tryz.prog 240 257 6 64 [.int .i64 0, .int .u64 0, .string ⟨⟨[]⟩⟩, .int .i64 0, .int .u64 0, .string ⟨⟨[]⟩⟩] := ⟨Tryz.underlying240, ⟨_, _, (by kernel_rfl : Tryz.prog.info? 257 = some Tryz.t257), rfl, rfl, rfl, rfl⟩, rfl, by decide⟩
theorem el_241 : El Tryz.prog 241 21 1 4 [.int .i32 0] := ⟨Tryz.underlying241, ⟨_, _, (by kernel_rfl : Tryz.prog.info? 21 = some Tryz.t21), rfl, rfl, rfl, rfl⟩, rfl, by decide⟩
theorem el_261 : El Tryz.prog 261 331 5 40 [.int .i64 0, .int .i64 0, .int .i64 0, .int .i64 0, .bool false] := ⟨Tryz.underlying261, ⟨_, _, (by kernel_rfl : Tryz.prog.info? 331 = some Tryz.t331), rfl, rfl, rfl, rfl⟩, rfl, by decide⟩
theorem el_377 : El Tryz.prog 377 376 3 24 [.int .i64 0, .int .i64 0, .int .u64 0] := ⟨Tryz.underlying377, ⟨_, _, (by kernel_rfl : Tryz.prog.info? 376 = some Tryz.t376), rfl, rfl, rfl, rfl⟩, rfl, by decide⟩
theorem B32 : Bld Tryz.prog 32 [.int .i64 0, .int .i64 0, .int .i64 0, .string ⟨⟨[]⟩⟩, .string ⟨⟨[]⟩⟩] := by
  refine ⟨Tryz.zeroValue32, _, Tryz.underlying32, rfl, fun i f h => ?_⟩
  match i, h with
  | 0, h => cases h; exact ⟨rfl, Tryz.sizeOf30⟩
  | 1, h => cases h; exact ⟨rfl, Tryz.sizeOf3⟩
  | 2, h => cases h; exact ⟨rfl, Tryz.sizeOf3⟩
  | 3, h => cases h; exact ⟨rfl, Tryz.sizeOf9⟩
  | 4, h => cases h; exact ⟨rfl, Tryz.sizeOf9⟩
  | i + 5, h => simp at h
theorem B42 : Bld Tryz.prog 42 [.int .i64 0, .int .u64 0, .string ⟨⟨[]⟩⟩] := by
  refine ⟨Tryz.zeroValue42, _, Tryz.underlying42, rfl, fun i f h => ?_⟩
  match i, h with
  | 0, h => cases h; exact ⟨rfl, Tryz.sizeOf3⟩
  | 1, h => cases h; exact ⟨rfl, Tryz.sizeOf40⟩
  | 2, h => cases h; exact ⟨rfl, Tryz.sizeOf9⟩
  | i + 3, h => simp at h
theorem B69 : Bld Tryz.prog 69 [.pointer none, .pointer none, .slice none 0 0, .slice none 0 0, .int .i64 0, .slice none 0 0] := by
  refine ⟨Tryz.zeroValue69, _, Tryz.underlying69, rfl, fun i f h => ?_⟩
  match i, h with
  | 0, h => cases h; exact ⟨rfl, Tryz.sizeOf56⟩
  | 1, h => cases h; exact ⟨rfl, Tryz.sizeOf60⟩
  | 2, h => cases h; exact ⟨rfl, Tryz.sizeOf65⟩
  | 3, h => cases h; exact ⟨rfl, Tryz.sizeOf66⟩
  | 4, h => cases h; exact ⟨rfl, Tryz.sizeOf3⟩
  | 5, h => cases h; exact ⟨rfl, Tryz.sizeOf67⟩
  | i + 6, h => simp at h
theorem B71 : Bld Tryz.prog 71 [.slice none 0 0] := by
  refine ⟨Tryz.zeroValue71, _, Tryz.underlying71, rfl, fun i f h => ?_⟩
  match i, h with
  | 0, h => cases h; exact ⟨rfl, Tryz.sizeOf67⟩
  | i + 1, h => simp at h
theorem B85 : Bld Tryz.prog 85 [.pointer none, .pointer none, .pointer none] := by
  refine ⟨Tryz.zeroValue85, _, Tryz.underlying85, rfl, fun i f h => ?_⟩
  match i, h with
  | 0, h => cases h; exact ⟨rfl, Tryz.sizeOf78⟩
  | 1, h => cases h; exact ⟨rfl, Tryz.sizeOf80⟩
  | 2, h => cases h; exact ⟨rfl, Tryz.sizeOf82⟩
  | i + 3, h => simp at h
theorem B99 : Bld Tryz.prog 99 [.int .u8 0, .int .u16 0] := by
  refine ⟨Tryz.zeroValue99, _, Tryz.underlying99, rfl, fun i f h => ?_⟩
  match i, h with
  | 0, h => cases h; exact ⟨rfl, Tryz.sizeOf5⟩
  | 1, h => cases h; exact ⟨rfl, Tryz.sizeOf97⟩
  | i + 2, h => simp at h
theorem B103 : Bld Tryz.prog 103 [.pointer none, .slice none 0 0, .int .i64 0] := by
  refine ⟨Tryz.zeroValue103, _, Tryz.underlying103, rfl, fun i f h => ?_⟩
  match i, h with
  | 0, h => cases h; exact ⟨rfl, Tryz.sizeOf37⟩
  | 1, h => cases h; exact ⟨rfl, Tryz.sizeOf101⟩
  | 2, h => cases h; exact ⟨rfl, Tryz.sizeOf3⟩
  | i + 3, h => simp at h
theorem B106 : Bld Tryz.prog 106 [.pointer none, .slice none 0 0, .slice none 0 0] := by
  refine ⟨Tryz.zeroValue106, _, Tryz.underlying106, rfl, fun i f h => ?_⟩
  match i, h with
  | 0, h => cases h; exact ⟨rfl, Tryz.sizeOf37⟩
  | 1, h => cases h; exact ⟨rfl, Tryz.sizeOf104⟩
  | 2, h => cases h; exact ⟨rfl, Tryz.sizeOf65⟩
  | i + 3, h => simp at h
theorem B115 : Bld Tryz.prog 115 [.pointer none, .pointer none, .slice none 0 0, .slice none 0 0, .slice none 0 0, .slice none 0 0, .slice none 0 0, .slice none 0 0, .slice none 0 0, .slice none 0 0, .int .i64 0, .slice none 0 0, .int .i64 0] := by
  refine ⟨Tryz.zeroValue115, _, Tryz.underlying115, rfl, fun i f h => ?_⟩
  match i, h with
  | 0, h => cases h; exact ⟨rfl, Tryz.sizeOf37⟩
  | 1, h => cases h; exact ⟨rfl, Tryz.sizeOf54⟩
  | 2, h => cases h; exact ⟨rfl, Tryz.sizeOf108⟩
  | 3, h => cases h; exact ⟨rfl, Tryz.sizeOf109⟩
  | 4, h => cases h; exact ⟨rfl, Tryz.sizeOf90⟩
  | 5, h => cases h; exact ⟨rfl, Tryz.sizeOf110⟩
  | 6, h => cases h; exact ⟨rfl, Tryz.sizeOf111⟩
  | 7, h => cases h; exact ⟨rfl, Tryz.sizeOf112⟩
  | 8, h => cases h; exact ⟨rfl, Tryz.sizeOf113⟩
  | 9, h => cases h; exact ⟨rfl, Tryz.sizeOf107⟩
  | 10, h => cases h; exact ⟨rfl, Tryz.sizeOf3⟩
  | 11, h => cases h; exact ⟨rfl, Tryz.sizeOf67⟩
  | 12, h => cases h; exact ⟨rfl, Tryz.sizeOf30⟩
  | i + 13, h => simp at h
theorem B117 : Bld Tryz.prog 117 [.pointer none, .int .i64 0, .int .i64 0] := by
  refine ⟨Tryz.zeroValue117, _, Tryz.underlying117, rfl, fun i f h => ?_⟩
  match i, h with
  | 0, h => cases h; exact ⟨rfl, Tryz.sizeOf58⟩
  | 1, h => cases h; exact ⟨rfl, Tryz.sizeOf3⟩
  | 2, h => cases h; exact ⟨rfl, Tryz.sizeOf3⟩
  | i + 3, h => simp at h
theorem B122 : Bld Tryz.prog 122 [.slice none 0 0, .int .i64 0] := by
  refine ⟨Tryz.zeroValue122, _, Tryz.underlying122, rfl, fun i f h => ?_⟩
  match i, h with
  | 0, h => cases h; exact ⟨rfl, Tryz.sizeOf65⟩
  | 1, h => cases h; exact ⟨rfl, Tryz.sizeOf3⟩
  | i + 2, h => simp at h
theorem B134 : Bld Tryz.prog 134 [.pointer none, .slice none 0 0] := by
  refine ⟨Tryz.zeroValue134, _, Tryz.underlying134, rfl, fun i f h => ?_⟩
  match i, h with
  | 0, h => cases h; exact ⟨rfl, Tryz.sizeOf78⟩
  | 1, h => cases h; exact ⟨rfl, Tryz.sizeOf132⟩
  | i + 2, h => simp at h
theorem B136 : Bld Tryz.prog 136 [.pointer none] := by
  refine ⟨Tryz.zeroValue136, _, Tryz.underlying136, rfl, fun i f h => ?_⟩
  match i, h with
  | 0, h => cases h; exact ⟨rfl, Tryz.sizeOf78⟩
  | i + 1, h => simp at h
theorem B148 : Bld Tryz.prog 148 [.int .i64 0, .pointer none] := by
  refine ⟨Tryz.zeroValue148, _, Tryz.underlying148, rfl, fun i f h => ?_⟩
  match i, h with
  | 0, h => cases h; exact ⟨rfl, Tryz.sizeOf3⟩
  | 1, h => cases h; exact ⟨rfl, Tryz.sizeOf146⟩
  | i + 2, h => simp at h
theorem B152 : Bld Tryz.prog 152 [.int .i64 0, .int .i64 0, .int .i64 0, .slice none 0 0, .slice none 0 0] := by
  refine ⟨Tryz.zeroValue152, _, Tryz.underlying152, rfl, fun i f h => ?_⟩
  match i, h with
  | 0, h => cases h; exact ⟨rfl, Tryz.sizeOf3⟩
  | 1, h => cases h; exact ⟨rfl, Tryz.sizeOf3⟩
  | 2, h => cases h; exact ⟨rfl, Tryz.sizeOf3⟩
  | 3, h => cases h; exact ⟨rfl, Tryz.sizeOf150⟩
  | 4, h => cases h; exact ⟨rfl, Tryz.sizeOf90⟩
  | i + 5, h => simp at h
theorem B156 : Bld Tryz.prog 156 [.int .i64 0, .int .i64 0, .string ⟨⟨[]⟩⟩, .int .u64 0, .int .i64 0] := by
  refine ⟨Tryz.zeroValue156, _, Tryz.underlying156, rfl, fun i f h => ?_⟩
  match i, h with
  | 0, h => cases h; exact ⟨rfl, Tryz.sizeOf154⟩
  | 1, h => cases h; exact ⟨rfl, Tryz.sizeOf3⟩
  | 2, h => cases h; exact ⟨rfl, Tryz.sizeOf9⟩
  | 3, h => cases h; exact ⟨rfl, Tryz.sizeOf40⟩
  | 4, h => cases h; exact ⟨rfl, Tryz.sizeOf30⟩
  | i + 5, h => simp at h
theorem B158 : Bld Tryz.prog 158 [.int .i64 0, .int .i64 0, .int .i64 0, .int .i64 0, .int .i64 0, .int .u64 0, .string ⟨⟨[]⟩⟩, .int .i64 0] := by
  refine ⟨Tryz.zeroValue158, _, Tryz.underlying158, rfl, fun i f h => ?_⟩
  match i, h with
  | 0, h => cases h; exact ⟨rfl, Tryz.sizeOf3⟩
  | 1, h => cases h; exact ⟨rfl, Tryz.sizeOf3⟩
  | 2, h => cases h; exact ⟨rfl, Tryz.sizeOf3⟩
  | 3, h => cases h; exact ⟨rfl, Tryz.sizeOf3⟩
  | 4, h => cases h; exact ⟨rfl, Tryz.sizeOf3⟩
  | 5, h => cases h; exact ⟨rfl, Tryz.sizeOf40⟩
  | 6, h => cases h; exact ⟨rfl, Tryz.sizeOf9⟩
  | 7, h => cases h; exact ⟨rfl, Tryz.sizeOf3⟩
  | i + 8, h => simp at h
theorem B163 : Bld Tryz.prog 163 [.int .i64 0, .slice none 0 0] := by
  refine ⟨Tryz.zeroValue163, _, Tryz.underlying163, rfl, fun i f h => ?_⟩
  match i, h with
  | 0, h => cases h; exact ⟨rfl, Tryz.sizeOf3⟩
  | 1, h => cases h; exact ⟨rfl, Tryz.sizeOf161⟩
  | i + 2, h => simp at h
theorem B168 : Bld Tryz.prog 168 [.int .i64 0, .int .i64 0] := by
  refine ⟨Tryz.zeroValue168, _, Tryz.underlying168, rfl, fun i f h => ?_⟩
  match i, h with
  | 0, h => cases h; exact ⟨rfl, Tryz.sizeOf3⟩
  | 1, h => cases h; exact ⟨rfl, Tryz.sizeOf3⟩
  | i + 2, h => simp at h
theorem B181 : Bld Tryz.prog 181 [.int .i64 0, .int .i64 0, .int .i64 0] := by
  refine ⟨Tryz.zeroValue181, _, Tryz.underlying181, rfl, fun i f h => ?_⟩
  match i, h with
  | 0, h => cases h; exact ⟨rfl, Tryz.sizeOf3⟩
  | 1, h => cases h; exact ⟨rfl, Tryz.sizeOf3⟩
  | 2, h => cases h; exact ⟨rfl, Tryz.sizeOf3⟩
  | i + 3, h => simp at h
theorem B193 : Bld Tryz.prog 193 [.int .i64 0, .string ⟨⟨[]⟩⟩, .int .u64 0, .int .i64 0, .int .i64 0] := by
  refine ⟨Tryz.zeroValue193, _, Tryz.underlying193, rfl, fun i f h => ?_⟩
  match i, h with
  | 0, h => cases h; exact ⟨rfl, Tryz.sizeOf3⟩
  | 1, h => cases h; exact ⟨rfl, Tryz.sizeOf9⟩
  | 2, h => cases h; exact ⟨rfl, Tryz.sizeOf40⟩
  | 3, h => cases h; exact ⟨rfl, Tryz.sizeOf3⟩
  | 4, h => cases h; exact ⟨rfl, Tryz.sizeOf30⟩
  | i + 5, h => simp at h
theorem B206 : Bld Tryz.prog 206 [.int .i64 0, .int .i64 0, .int .i64 0, .pointer none] := by
  refine ⟨Tryz.zeroValue206, _, Tryz.underlying206, rfl, fun i f h => ?_⟩
  match i, h with
  | 0, h => cases h; exact ⟨rfl, Tryz.sizeOf3⟩
  | 1, h => cases h; exact ⟨rfl, Tryz.sizeOf3⟩
  | 2, h => cases h; exact ⟨rfl, Tryz.sizeOf3⟩
  | 3, h => cases h; exact ⟨rfl, Tryz.sizeOf146⟩
  | i + 4, h => simp at h
theorem B245 : Bld Tryz.prog 245 [.slice none 0 0, .slice none 0 0, .map none, .map none, .map none, .int .i64 0] := by
  refine ⟨Tryz.zeroValue245, _, Tryz.underlying245, rfl, fun i f h => ?_⟩
  match i, h with
  | 0, h => cases h; exact ⟨rfl, Tryz.sizeOf240⟩
  | 1, h => cases h; exact ⟨rfl, Tryz.sizeOf241⟩
  | 2, h => cases h; exact ⟨rfl, Tryz.sizeOf242⟩
  | 3, h => cases h; exact ⟨rfl, Tryz.sizeOf243⟩
  | 4, h => cases h; exact ⟨rfl, Tryz.sizeOf242⟩
  | 5, h => cases h; exact ⟨rfl, Tryz.sizeOf3⟩
  | i + 6, h => simp at h
theorem B248 : Bld Tryz.prog 248 [.slice none 0 0, .int .i64 0, .bool false] := by
  refine ⟨Tryz.zeroValue248, _, Tryz.underlying248, rfl, fun i f h => ?_⟩
  match i, h with
  | 0, h => cases h; exact ⟨rfl, Tryz.sizeOf67⟩
  | 1, h => cases h; exact ⟨rfl, Tryz.sizeOf3⟩
  | 2, h => cases h; exact ⟨rfl, Tryz.sizeOf4⟩
  | i + 3, h => simp at h
theorem B252 : Bld Tryz.prog 252 [.int .i64 0, .int .i64 0, .int .i64 0, .int .i64 0, .int .i64 0, .int .i64 0, .int .i64 0, .int .i64 0] := by
  refine ⟨Tryz.zeroValue252, _, Tryz.underlying252, rfl, fun i f h => ?_⟩
  match i, h with
  | 0, h => cases h; exact ⟨rfl, Tryz.sizeOf3⟩
  | 1, h => cases h; exact ⟨rfl, Tryz.sizeOf3⟩
  | 2, h => cases h; exact ⟨rfl, Tryz.sizeOf3⟩
  | 3, h => cases h; exact ⟨rfl, Tryz.sizeOf3⟩
  | 4, h => cases h; exact ⟨rfl, Tryz.sizeOf3⟩
  | 5, h => cases h; exact ⟨rfl, Tryz.sizeOf3⟩
  | 6, h => cases h; exact ⟨rfl, Tryz.sizeOf3⟩
  | 7, h => cases h; exact ⟨rfl, Tryz.sizeOf3⟩
  | i + 8, h => simp at h
theorem B297 : Bld Tryz.prog 297 [.int .i64 0, .nilIface, .slice none 0 0] := by
  refine ⟨Tryz.zeroValue297, _, Tryz.underlying297, rfl, fun i f h => ?_⟩
  match i, h with
  | 0, h => cases h; exact ⟨rfl, Tryz.sizeOf3⟩
  | 1, h => cases h; exact ⟨rfl, Tryz.sizeOf292⟩
  | 2, h => cases h; exact ⟨rfl, Tryz.sizeOf172⟩
  | i + 3, h => simp at h
theorem B299 : Bld Tryz.prog 299 [.int .i64 0] := by
  refine ⟨Tryz.zeroValue299, _, Tryz.underlying299, rfl, fun i f h => ?_⟩
  match i, h with
  | 0, h => cases h; exact ⟨rfl, Tryz.sizeOf3⟩
  | i + 1, h => simp at h
theorem B306 : Bld Tryz.prog 306 [.pointer none] := by
  refine ⟨Tryz.zeroValue306, _, Tryz.underlying306, rfl, fun i f h => ?_⟩
  match i, h with
  | 0, h => cases h; exact ⟨rfl, Tryz.sizeOf302⟩
  | i + 1, h => simp at h
theorem B311 : Bld Tryz.prog 311 [.int .i64 0, .nilIface, .nilIface] := by
  refine ⟨Tryz.zeroValue311, _, Tryz.underlying311, rfl, fun i f h => ?_⟩
  match i, h with
  | 0, h => cases h; exact ⟨rfl, Tryz.sizeOf3⟩
  | 1, h => cases h; exact ⟨rfl, Tryz.sizeOf292⟩
  | 2, h => cases h; exact ⟨rfl, Tryz.sizeOf292⟩
  | i + 3, h => simp at h
theorem B321 : Bld Tryz.prog 321 [.int .u8 0, .int .u8 0] := by
  refine ⟨Tryz.zeroValue321, _, Tryz.underlying321, rfl, fun i f h => ?_⟩
  match i, h with
  | 0, h => cases h; exact ⟨rfl, Tryz.sizeOf5⟩
  | 1, h => cases h; exact ⟨rfl, Tryz.sizeOf5⟩
  | i + 2, h => simp at h
theorem B324 : Bld Tryz.prog 324 [.int .u8 0, .int .u16 0] := by
  refine ⟨Tryz.zeroValue324, _, Tryz.underlying324, rfl, fun i f h => ?_⟩
  match i, h with
  | 0, h => cases h; exact ⟨rfl, Tryz.sizeOf5⟩
  | 1, h => cases h; exact ⟨rfl, Tryz.sizeOf97⟩
  | i + 2, h => simp at h
theorem B331 : Bld Tryz.prog 331 [.int .i64 0, .int .i64 0, .int .i64 0, .int .i64 0, .bool false] := by
  refine ⟨Tryz.zeroValue331, _, Tryz.underlying331, rfl, fun i f h => ?_⟩
  match i, h with
  | 0, h => cases h; exact ⟨rfl, Tryz.sizeOf3⟩
  | 1, h => cases h; exact ⟨rfl, Tryz.sizeOf3⟩
  | 2, h => cases h; exact ⟨rfl, Tryz.sizeOf3⟩
  | 3, h => cases h; exact ⟨rfl, Tryz.sizeOf3⟩
  | 4, h => cases h; exact ⟨rfl, Tryz.sizeOf4⟩
  | i + 5, h => simp at h
theorem B358 : Bld Tryz.prog 358 [.int .i64 0, .string ⟨⟨[]⟩⟩] := by
  refine ⟨Tryz.zeroValue358, _, Tryz.underlying358, rfl, fun i f h => ?_⟩
  match i, h with
  | 0, h => cases h; exact ⟨rfl, Tryz.sizeOf3⟩
  | 1, h => cases h; exact ⟨rfl, Tryz.sizeOf9⟩
  | i + 2, h => simp at h
theorem B361 : Bld Tryz.prog 361 [.pointer none, .pointer none] := by
  refine ⟨Tryz.zeroValue361, _, Tryz.underlying361, rfl, fun i f h => ?_⟩
  match i, h with
  | 0, h => cases h; exact ⟨rfl, Tryz.sizeOf307⟩
  | 1, h => cases h; exact ⟨rfl, Tryz.sizeOf355⟩
  | i + 2, h => simp at h
theorem B365 : Bld Tryz.prog 365 [.slice none 0 0, .nilIface] := by
  refine ⟨Tryz.zeroValue365, _, Tryz.underlying365, rfl, fun i f h => ?_⟩
  match i, h with
  | 0, h => cases h; exact ⟨rfl, Tryz.sizeOf172⟩
  | 1, h => cases h; exact ⟨rfl, Tryz.sizeOf292⟩
  | i + 2, h => simp at h
theorem B368 : Bld Tryz.prog 368 [.int .i64 0, .nilIface, .slice none 0 0, .slice none 0 0] := by
  refine ⟨Tryz.zeroValue368, _, Tryz.underlying368, rfl, fun i f h => ?_⟩
  match i, h with
  | 0, h => cases h; exact ⟨rfl, Tryz.sizeOf3⟩
  | 1, h => cases h; exact ⟨rfl, Tryz.sizeOf292⟩
  | 2, h => cases h; exact ⟨rfl, Tryz.sizeOf172⟩
  | 3, h => cases h; exact ⟨rfl, Tryz.sizeOf172⟩
  | i + 4, h => simp at h
theorem B371 : Bld Tryz.prog 371 [.slice none 0 0, .nilIface, .slice none 0 0] := by
  refine ⟨Tryz.zeroValue371, _, Tryz.underlying371, rfl, fun i f h => ?_⟩
  match i, h with
  | 0, h => cases h; exact ⟨rfl, Tryz.sizeOf172⟩
  | 1, h => cases h; exact ⟨rfl, Tryz.sizeOf292⟩
  | 2, h => cases h; exact ⟨rfl, Tryz.sizeOf172⟩
  | i + 3, h => simp at h
theorem B374 : Bld Tryz.prog 374 [.pointer none, .slice none 0 0, .slice none 0 0] := by
  refine ⟨Tryz.zeroValue374, _, Tryz.underlying374, rfl, fun i f h => ?_⟩
  match i, h with
  | 0, h => cases h; exact ⟨rfl, Tryz.sizeOf307⟩
  | 1, h => cases h; exact ⟨rfl, Tryz.sizeOf172⟩
  | 2, h => cases h; exact ⟨rfl, Tryz.sizeOf172⟩
  | i + 3, h => simp at h
theorem B376 : Bld Tryz.prog 376 [.int .i64 0, .int .i64 0, .int .u64 0] := by
  refine ⟨Tryz.zeroValue376, _, Tryz.underlying376, rfl, fun i f h => ?_⟩
  match i, h with
  | 0, h => cases h; exact ⟨rfl, Tryz.sizeOf3⟩
  | 1, h => cases h; exact ⟨rfl, Tryz.sizeOf3⟩
  | 2, h => cases h; exact ⟨rfl, Tryz.sizeOf40⟩
  | i + 3, h => simp at h
theorem B380 : Bld Tryz.prog 380 [.int .i64 0, .int .i64 0, .int .u64 0, .nilIface, .nilIface] := by
  refine ⟨Tryz.zeroValue380, _, Tryz.underlying380, rfl, fun i f h => ?_⟩
  match i, h with
  | 0, h => cases h; exact ⟨rfl, Tryz.sizeOf3⟩
  | 1, h => cases h; exact ⟨rfl, Tryz.sizeOf3⟩
  | 2, h => cases h; exact ⟨rfl, Tryz.sizeOf40⟩
  | 3, h => cases h; exact ⟨rfl, Tryz.sizeOf292⟩
  | 4, h => cases h; exact ⟨rfl, Tryz.sizeOf292⟩
  | i + 5, h => simp at h
theorem B382 : Bld Tryz.prog 382 [.int .i64 0, .nilIface, .nilIface] := by
  refine ⟨Tryz.zeroValue382, _, Tryz.underlying382, rfl, fun i f h => ?_⟩
  match i, h with
  | 0, h => cases h; exact ⟨rfl, Tryz.sizeOf3⟩
  | 1, h => cases h; exact ⟨rfl, Tryz.sizeOf292⟩
  | 2, h => cases h; exact ⟨rfl, Tryz.sizeOf292⟩
  | i + 3, h => simp at h
theorem B384 : Bld Tryz.prog 384 [.int .i64 0, .string ⟨⟨[]⟩⟩] := by
  refine ⟨Tryz.zeroValue384, _, Tryz.underlying384, rfl, fun i f h => ?_⟩
  match i, h with
  | 0, h => cases h; exact ⟨rfl, Tryz.sizeOf3⟩
  | 1, h => cases h; exact ⟨rfl, Tryz.sizeOf9⟩
  | i + 2, h => simp at h
theorem B386 : Bld Tryz.prog 386 [.int .i64 0, .nilIface, .nilIface] := by
  refine ⟨Tryz.zeroValue386, _, Tryz.underlying386, rfl, fun i f h => ?_⟩
  match i, h with
  | 0, h => cases h; exact ⟨rfl, Tryz.sizeOf3⟩
  | 1, h => cases h; exact ⟨rfl, Tryz.sizeOf292⟩
  | 2, h => cases h; exact ⟨rfl, Tryz.sizeOf292⟩
  | i + 3, h => simp at h
theorem B389 : Bld Tryz.prog 389 [.int .i64 0, .nilIface, .slice none 0 0] := by
  refine ⟨Tryz.zeroValue389, _, Tryz.underlying389, rfl, fun i f h => ?_⟩
  match i, h with
  | 0, h => cases h; exact ⟨rfl, Tryz.sizeOf3⟩
  | 1, h => cases h; exact ⟨rfl, Tryz.sizeOf292⟩
  | 2, h => cases h; exact ⟨rfl, Tryz.sizeOf172⟩
  | i + 3, h => simp at h
theorem B392 : Bld Tryz.prog 392 [.int .i64 0, .int .i64 0] := by
  refine ⟨Tryz.zeroValue392, _, Tryz.underlying392, rfl, fun i f h => ?_⟩
  match i, h with
  | 0, h => cases h; exact ⟨rfl, Tryz.sizeOf3⟩
  | 1, h => cases h; exact ⟨rfl, Tryz.sizeOf3⟩
  | i + 2, h => simp at h
theorem B395 : Bld Tryz.prog 395 [.int .i64 0, .int .u64 0] := by
  refine ⟨Tryz.zeroValue395, _, Tryz.underlying395, rfl, fun i f h => ?_⟩
  match i, h with
  | 0, h => cases h; exact ⟨rfl, Tryz.sizeOf3⟩
  | 1, h => cases h; exact ⟨rfl, Tryz.sizeOf40⟩
  | i + 2, h => simp at h
theorem B397 : Bld Tryz.prog 397 [.int .i64 0, .int .i64 0, .slice none 0 0, .slice none 0 0] := by
  refine ⟨Tryz.zeroValue397, _, Tryz.underlying397, rfl, fun i f h => ?_⟩
  match i, h with
  | 0, h => cases h; exact ⟨rfl, Tryz.sizeOf3⟩
  | 1, h => cases h; exact ⟨rfl, Tryz.sizeOf3⟩
  | 2, h => cases h; exact ⟨rfl, Tryz.sizeOf172⟩
  | 3, h => cases h; exact ⟨rfl, Tryz.sizeOf172⟩
  | i + 4, h => simp at h
theorem B400 : Bld Tryz.prog 400 [.int .i64 0, .slice none 0 0] := by
  refine ⟨Tryz.zeroValue400, _, Tryz.underlying400, rfl, fun i f h => ?_⟩
  match i, h with
  | 0, h => cases h; exact ⟨rfl, Tryz.sizeOf3⟩
  | 1, h => cases h; exact ⟨rfl, Tryz.sizeOf172⟩
  | i + 2, h => simp at h
theorem B403 : Bld Tryz.prog 403 [.int .i64 0, .int .u64 0, .nilIface] := by
  refine ⟨Tryz.zeroValue403, _, Tryz.underlying403, rfl, fun i f h => ?_⟩
  match i, h with
  | 0, h => cases h; exact ⟨rfl, Tryz.sizeOf3⟩
  | 1, h => cases h; exact ⟨rfl, Tryz.sizeOf40⟩
  | 2, h => cases h; exact ⟨rfl, Tryz.sizeOf292⟩
  | i + 3, h => simp at h
end Go.Sl
