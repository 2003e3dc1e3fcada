/- Closed facts on the program's own types (made by program). -/
import Derived.Test.Qxb6500572aGreatDoorProg
import Derived.Test.Qxb6500572aGreatDoorSlM
namespace Go.Sl
open Go Go.Proofs
theorem mixed : Tryz.prog.follows .mixedOrders = true := by kernel_rfl
theorem fld_30_0 : Fld Tryz.prog 30 0 0 := fld_mk (z := 0) Tryz.underlying30 rfl rfl Tryz.sizeOf28
theorem fld_37_0 : Fld Tryz.prog 37 0 0 := fld_mk (z := 0) Tryz.underlying37 rfl rfl Tryz.sizeOf32
theorem fld_37_1 : Fld Tryz.prog 37 1 1 := fld_mk (z := 0) Tryz.underlying37 rfl rfl Tryz.sizeOf32
theorem fld_37_2 : Fld Tryz.prog 37 2 2 := fld_mk (z := 0) Tryz.underlying37 rfl rfl Tryz.sizeOf34
theorem fld_37_3 : Fld Tryz.prog 37 3 3 := fld_mk (z := 0) Tryz.underlying37 rfl rfl Tryz.sizeOf35
theorem fld_43_0 : Fld Tryz.prog 43 0 0 := fld_mk (z := 0) Tryz.underlying43 rfl rfl Tryz.sizeOf3
theorem fld_43_1 : Fld Tryz.prog 43 1 1 := fld_mk (z := 0) Tryz.underlying43 rfl rfl Tryz.sizeOf3
theorem fld_43_2 : Fld Tryz.prog 43 2 2 := fld_mk (z := 0) Tryz.underlying43 rfl rfl Tryz.sizeOf3
theorem fld_43_3 : Fld Tryz.prog 43 3 3 := fld_mk (z := 0) Tryz.underlying43 rfl rfl Tryz.sizeOf3
theorem fld_43_4 : Fld Tryz.prog 43 4 4 := fld_mk (z := 0) Tryz.underlying43 rfl rfl Tryz.sizeOf9
theorem fld_43_5 : Fld Tryz.prog 43 5 5 := fld_mk (z := 0) Tryz.underlying43 rfl rfl Tryz.sizeOf9
theorem fld_49_0 : Fld Tryz.prog 49 0 0 := fld_mk (z := 0) Tryz.underlying49 rfl rfl Tryz.sizeOf45
theorem fld_49_1 : Fld Tryz.prog 49 1 1 := fld_mk (z := 0) Tryz.underlying49 rfl rfl Tryz.sizeOf46
theorem fld_49_2 : Fld Tryz.prog 49 2 2 := fld_mk (z := 0) Tryz.underlying49 rfl rfl Tryz.sizeOf47
theorem fld_53_0 : Fld Tryz.prog 53 0 0 := fld_mk (z := 0) Tryz.underlying53 rfl rfl Tryz.sizeOf51
theorem fld_53_1 : Fld Tryz.prog 53 1 1 := fld_mk (z := 0) Tryz.underlying53 rfl rfl Tryz.sizeOf3
theorem fld_53_2 : Fld Tryz.prog 53 2 2 := fld_mk (z := 0) Tryz.underlying53 rfl rfl Tryz.sizeOf3
theorem fld_53_3 : Fld Tryz.prog 53 3 3 := fld_mk (z := 0) Tryz.underlying53 rfl rfl Tryz.sizeOf9
theorem fld_66_0 : Fld Tryz.prog 66 0 0 := fld_mk (z := 0) Tryz.underlying66 rfl rfl Tryz.sizeOf62
theorem fld_66_1 : Fld Tryz.prog 66 1 1 := fld_mk (z := 0) Tryz.underlying66 rfl rfl Tryz.sizeOf63
theorem fld_66_2 : Fld Tryz.prog 66 2 2 := fld_mk (z := 0) Tryz.underlying66 rfl rfl Tryz.sizeOf64
theorem fld_76_0 : Fld Tryz.prog 76 0 0 := fld_mk (z := 0) Tryz.underlying76 rfl rfl Tryz.sizeOf72
theorem fld_76_1 : Fld Tryz.prog 76 1 1 := fld_mk (z := 0) Tryz.underlying76 rfl rfl Tryz.sizeOf72
theorem fld_76_2 : Fld Tryz.prog 76 2 2 := fld_mk (z := 0) Tryz.underlying76 rfl rfl Tryz.sizeOf73
theorem fld_76_3 : Fld Tryz.prog 76 3 3 := fld_mk (z := 0) Tryz.underlying76 rfl rfl Tryz.sizeOf3
theorem fld_76_4 : Fld Tryz.prog 76 4 4 := fld_mk (z := 0) Tryz.underlying76 rfl rfl Tryz.sizeOf3
theorem fld_76_5 : Fld Tryz.prog 76 5 5 := fld_mk (z := 0) Tryz.underlying76 rfl rfl Tryz.sizeOf74
theorem fld_87_0 : Fld Tryz.prog 87 0 0 := fld_mk (z := 0) Tryz.underlying87 rfl rfl Tryz.sizeOf3
theorem fld_87_1 : Fld Tryz.prog 87 1 1 := fld_mk (z := 0) Tryz.underlying87 rfl rfl Tryz.sizeOf3
theorem fld_87_2 : Fld Tryz.prog 87 2 2 := fld_mk (z := 0) Tryz.underlying87 rfl rfl Tryz.sizeOf9
theorem fld_93_0 : Fld Tryz.prog 93 0 0 := fld_mk (z := 0) Tryz.underlying93 rfl rfl Tryz.sizeOf45
theorem fld_93_1 : Fld Tryz.prog 93 1 1 := fld_mk (z := 0) Tryz.underlying93 rfl rfl Tryz.sizeOf46
theorem fld_93_2 : Fld Tryz.prog 93 2 2 := fld_mk (z := 0) Tryz.underlying93 rfl rfl Tryz.sizeOf90
theorem fld_93_3 : Fld Tryz.prog 93 3 3 := fld_mk (z := 0) Tryz.underlying93 rfl rfl Tryz.sizeOf91
theorem fld_93_4 : Fld Tryz.prog 93 4 4 := fld_mk (z := 0) Tryz.underlying93 rfl rfl Tryz.sizeOf3
theorem fld_93_5 : Fld Tryz.prog 93 5 5 := fld_mk (z := 0) Tryz.underlying93 rfl rfl Tryz.sizeOf3
theorem fld_96_0 : Fld Tryz.prog 96 0 0 := fld_mk (z := 0) Tryz.underlying96 rfl rfl Tryz.sizeOf3
theorem fld_96_1 : Fld Tryz.prog 96 1 1 := fld_mk (z := 0) Tryz.underlying96 rfl rfl Tryz.sizeOf3
theorem fld_96_2 : Fld Tryz.prog 96 2 2 := fld_mk (z := 0) Tryz.underlying96 rfl rfl Tryz.sizeOf3
theorem fld_96_3 : Fld Tryz.prog 96 3 3 := fld_mk (z := 0) Tryz.underlying96 rfl rfl Tryz.sizeOf3
theorem fld_96_4 : Fld Tryz.prog 96 4 4 := fld_mk (z := 0) Tryz.underlying96 rfl rfl Tryz.sizeOf94
theorem fld_102_0 : Fld Tryz.prog 102 0 0 := fld_mk (z := 0) Tryz.underlying102 rfl rfl Tryz.sizeOf100
theorem fld_102_1 : Fld Tryz.prog 102 1 1 := fld_mk (z := 0) Tryz.underlying102 rfl rfl Tryz.sizeOf3
theorem fld_102_2 : Fld Tryz.prog 102 2 2 := fld_mk (z := 0) Tryz.underlying102 rfl rfl Tryz.sizeOf3
theorem fld_108_0 : Fld Tryz.prog 108 0 0 := fld_mk (z := 0) Tryz.underlying108 rfl rfl Tryz.sizeOf9
theorem fld_108_1 : Fld Tryz.prog 108 1 1 := fld_mk (z := 0) Tryz.underlying108 rfl rfl Tryz.sizeOf9
theorem fld_108_2 : Fld Tryz.prog 108 2 2 := fld_mk (z := 0) Tryz.underlying108 rfl rfl Tryz.sizeOf9
theorem fld_108_3 : Fld Tryz.prog 108 3 3 := fld_mk (z := 0) Tryz.underlying108 rfl rfl Tryz.sizeOf106
theorem fld_110_0 : Fld Tryz.prog 110 0 0 := fld_mk (z := 0) Tryz.underlying110 rfl rfl Tryz.sizeOf5
theorem fld_110_1 : Fld Tryz.prog 110 1 1 := fld_mk (z := 0) Tryz.underlying110 rfl rfl Tryz.sizeOf3
theorem fld_119_0 : Fld Tryz.prog 119 0 0 := fld_mk (z := 0) Tryz.underlying119 rfl rfl Tryz.sizeOf62
theorem fld_119_1 : Fld Tryz.prog 119 1 1 := fld_mk (z := 0) Tryz.underlying119 rfl rfl Tryz.sizeOf117
theorem fld_119_2 : Fld Tryz.prog 119 2 2 := fld_mk (z := 0) Tryz.underlying119 rfl rfl Tryz.sizeOf63
theorem fld_119_3 : Fld Tryz.prog 119 3 3 := fld_mk (z := 0) Tryz.underlying119 rfl rfl Tryz.sizeOf35
theorem fld_119_4 : Fld Tryz.prog 119 4 4 := fld_mk (z := 0) Tryz.underlying119 rfl rfl Tryz.sizeOf3
theorem fld_119_5 : Fld Tryz.prog 119 5 5 := fld_mk (z := 0) Tryz.underlying119 rfl rfl Tryz.sizeOf3
theorem fld_119_6 : Fld Tryz.prog 119 6 6 := fld_mk (z := 0) Tryz.underlying119 rfl rfl Tryz.sizeOf3
theorem fld_119_7 : Fld Tryz.prog 119 7 7 := fld_mk (z := 0) Tryz.underlying119 rfl rfl Tryz.sizeOf3
theorem fld_119_8 : Fld Tryz.prog 119 8 8 := fld_mk (z := 0) Tryz.underlying119 rfl rfl Tryz.sizeOf4
theorem fld_119_9 : Fld Tryz.prog 119 9 9 := fld_mk (z := 0) Tryz.underlying119 rfl rfl Tryz.sizeOf9
theorem fld_119_10 : Fld Tryz.prog 119 10 10 := fld_mk (z := 0) Tryz.underlying119 rfl rfl Tryz.sizeOf9
theorem fld_125_0 : Fld Tryz.prog 125 0 0 := fld_mk (z := 0) Tryz.underlying125 rfl rfl Tryz.sizeOf3
theorem fld_125_1 : Fld Tryz.prog 125 1 1 := fld_mk (z := 0) Tryz.underlying125 rfl rfl Tryz.sizeOf3
theorem fld_125_2 : Fld Tryz.prog 125 2 2 := fld_mk (z := 0) Tryz.underlying125 rfl rfl Tryz.sizeOf39
theorem fld_129_0 : Fld Tryz.prog 129 0 0 := fld_mk (z := 0) Tryz.underlying129 rfl rfl Tryz.sizeOf3
theorem fld_129_1 : Fld Tryz.prog 129 1 1 := fld_mk (z := 0) Tryz.underlying129 rfl rfl Tryz.sizeOf9
theorem fld_129_2 : Fld Tryz.prog 129 2 2 := fld_mk (z := 0) Tryz.underlying129 rfl rfl Tryz.sizeOf34
theorem fld_138_0 : Fld Tryz.prog 138 0 0 := fld_mk (z := 0) Tryz.underlying138 rfl rfl Tryz.sizeOf9
theorem fld_138_1 : Fld Tryz.prog 138 1 1 := fld_mk (z := 0) Tryz.underlying138 rfl rfl Tryz.sizeOf9
theorem fld_138_2 : Fld Tryz.prog 138 2 2 := fld_mk (z := 0) Tryz.underlying138 rfl rfl Tryz.sizeOf3
theorem fld_138_3 : Fld Tryz.prog 138 3 3 := fld_mk (z := 0) Tryz.underlying138 rfl rfl Tryz.sizeOf136
theorem fld_159_0 : Fld Tryz.prog 159 0 0 := fld_mk (z := 0) Tryz.underlying159 rfl rfl Tryz.sizeOf3
theorem fld_159_1 : Fld Tryz.prog 159 1 1 := fld_mk (z := 0) Tryz.underlying159 rfl rfl Tryz.sizeOf3
theorem fld_159_2 : Fld Tryz.prog 159 2 2 := fld_mk (z := 0) Tryz.underlying159 rfl rfl Tryz.sizeOf3
theorem fld_159_4 : Fld Tryz.prog 159 4 4 := fld_mk (z := 0) Tryz.underlying159 rfl rfl Tryz.sizeOf157
theorem fld_164_0 : Fld Tryz.prog 164 0 0 := fld_mk (z := 0) Tryz.underlying164 rfl rfl Tryz.sizeOf9
theorem fld_164_1 : Fld Tryz.prog 164 1 1 := fld_mk (z := 0) Tryz.underlying164 rfl rfl Tryz.sizeOf9
theorem fld_164_2 : Fld Tryz.prog 164 2 2 := fld_mk (z := 0) Tryz.underlying164 rfl rfl Tryz.sizeOf9
theorem fld_164_3 : Fld Tryz.prog 164 3 3 := fld_mk (z := 0) Tryz.underlying164 rfl rfl Tryz.sizeOf34
theorem fld_164_4 : Fld Tryz.prog 164 4 4 := fld_mk (z := 0) Tryz.underlying164 rfl rfl Tryz.sizeOf106
theorem fld_171_0 : Fld Tryz.prog 171 0 0 := fld_mk (z := 0) Tryz.underlying171 rfl rfl Tryz.sizeOf3
theorem fld_171_1 : Fld Tryz.prog 171 1 1 := fld_mk (z := 0) Tryz.underlying171 rfl rfl Tryz.sizeOf3
theorem fld_171_2 : Fld Tryz.prog 171 2 2 := fld_mk (z := 0) Tryz.underlying171 rfl rfl Tryz.sizeOf3
theorem fld_171_3 : Fld Tryz.prog 171 3 3 := fld_mk (z := 0) Tryz.underlying171 rfl rfl Tryz.sizeOf3
theorem fld_171_4 : Fld Tryz.prog 171 4 4 := fld_mk (z := 0) Tryz.underlying171 rfl rfl Tryz.sizeOf4
theorem fld_174_0 : Fld Tryz.prog 174 0 0 := fld_mk (z := 0) Tryz.underlying174 rfl rfl Tryz.sizeOf144
theorem fld_174_1 : Fld Tryz.prog 174 1 1 := fld_mk (z := 0) Tryz.underlying174 rfl rfl Tryz.sizeOf172
theorem fld_177_0 : Fld Tryz.prog 177 0 0 := fld_mk (z := 0) Tryz.underlying177 rfl rfl Tryz.sizeOf144
theorem fld_177_1 : Fld Tryz.prog 177 1 1 := fld_mk (z := 0) Tryz.underlying177 rfl rfl Tryz.sizeOf3
theorem fld_181_0 : Fld Tryz.prog 181 0 0 := fld_mk (z := 0) Tryz.underlying181 rfl rfl Tryz.sizeOf3
theorem fld_181_1 : Fld Tryz.prog 181 1 1 := fld_mk (z := 0) Tryz.underlying181 rfl rfl Tryz.sizeOf3
theorem fld_181_2 : Fld Tryz.prog 181 2 2 := fld_mk (z := 0) Tryz.underlying181 rfl rfl Tryz.sizeOf3
theorem fld_181_3 : Fld Tryz.prog 181 3 3 := fld_mk (z := 0) Tryz.underlying181 rfl rfl Tryz.sizeOf3
theorem fld_191_0 : Fld Tryz.prog 191 0 0 := fld_mk (z := 0) Tryz.underlying191 rfl rfl Tryz.sizeOf45
theorem fld_191_1 : Fld Tryz.prog 191 1 1 := fld_mk (z := 0) Tryz.underlying191 rfl rfl Tryz.sizeOf105
theorem fld_191_2 : Fld Tryz.prog 191 2 2 := fld_mk (z := 0) Tryz.underlying191 rfl rfl Tryz.sizeOf144
theorem fld_191_3 : Fld Tryz.prog 191 3 3 := fld_mk (z := 0) Tryz.underlying191 rfl rfl Tryz.sizeOf188
theorem fld_191_4 : Fld Tryz.prog 191 4 4 := fld_mk (z := 0) Tryz.underlying191 rfl rfl Tryz.sizeOf106
theorem fld_191_5 : Fld Tryz.prog 191 5 5 := fld_mk (z := 0) Tryz.underlying191 rfl rfl Tryz.sizeOf189
theorem fld_230_0 : Fld Tryz.prog 230 0 0 := fld_mk (z := 0) Tryz.underlying230 rfl rfl Tryz.sizeOf9
theorem fld_230_1 : Fld Tryz.prog 230 1 1 := fld_mk (z := 0) Tryz.underlying230 rfl rfl Tryz.sizeOf9
theorem fld_230_2 : Fld Tryz.prog 230 2 2 := fld_mk (z := 0) Tryz.underlying230 rfl rfl Tryz.sizeOf3
theorem fld_230_3 : Fld Tryz.prog 230 3 3 := fld_mk (z := 0) Tryz.underlying230 rfl rfl Tryz.sizeOf3
theorem fld_230_4 : Fld Tryz.prog 230 4 4 := fld_mk (z := 0) Tryz.underlying230 rfl rfl Tryz.sizeOf4
theorem fld_230_5 : Fld Tryz.prog 230 5 5 := fld_mk (z := 0) Tryz.underlying230 rfl rfl Tryz.sizeOf227
theorem fld_230_6 : Fld Tryz.prog 230 6 6 := fld_mk (z := 0) Tryz.underlying230 rfl rfl Tryz.sizeOf228
theorem fld_235_0 : Fld Tryz.prog 235 0 0 := fld_mk (z := 0) Tryz.underlying235 rfl rfl Tryz.sizeOf9
theorem fld_235_1 : Fld Tryz.prog 235 1 1 := fld_mk (z := 0) Tryz.underlying235 rfl rfl Tryz.sizeOf9
theorem fld_257_0 : Fld Tryz.prog 257 0 0 := fld_mk (z := 0) Tryz.underlying257 rfl rfl Tryz.sizeOf3
theorem fld_257_1 : Fld Tryz.prog 257 1 1 := fld_mk (z := 0) Tryz.underlying257 rfl rfl Tryz.sizeOf3
theorem fld_257_2 : Fld Tryz.prog 257 2 2 := fld_mk (z := 0) Tryz.underlying257 rfl rfl Tryz.sizeOf3
theorem fld_257_3 : Fld Tryz.prog 257 3 3 := fld_mk (z := 0) Tryz.underlying257 rfl rfl Tryz.sizeOf3
theorem fld_257_4 : Fld Tryz.prog 257 4 4 := fld_mk (z := 0) Tryz.underlying257 rfl rfl Tryz.sizeOf9
theorem fld_305_0 : Fld Tryz.prog 305 0 0 := fld_mk (z := 0) Tryz.underlying305 rfl rfl Tryz.sizeOf39
theorem el_22 : El Tryz.prog 22 43 6 64 [.int .i64 0, .int .i64 0, .int .i64 0, .int .i64 0, .string ⟨⟨[]⟩⟩, .string ⟨⟨[]⟩⟩] := ⟨Tryz.underlying22, ⟨_, _, (by kernel_rfl : Tryz.prog.info? 43 = some Tryz.t43), rfl, rfl, rfl, rfl⟩, rfl, by decide⟩
theorem el_34 : El Tryz.prog 34 87 3 32 [.int .i64 0, .int .i64 0, .string ⟨⟨[]⟩⟩] := ⟨Tryz.underlying34, ⟨_, _, (by kernel_rfl : Tryz.prog.info? 87 = some Tryz.t87), rfl, rfl, rfl, rfl⟩, rfl, by decide⟩
theorem el_35 : El Tryz.prog 35 110 2 16 [.int .u8 0, .int .i64 0] := ⟨Tryz.underlying35, ⟨_, _, (by kernel_rfl : Tryz.prog.info? 110 = some Tryz.t110), rfl, rfl, rfl, rfl⟩, rfl, by decide⟩
theorem el_72 : El Tryz.prog 72 9 1 16 [.string ⟨⟨[]⟩⟩] := ⟨Tryz.underlying72, ⟨_, _, (by kernel_rfl : Tryz.prog.info? 9 = some Tryz.t9), rfl, rfl, rfl, rfl⟩, rfl, by decide⟩
theorem el_73 : El Tryz.prog 73 3 1 8 [.int .i64 0] := ⟨Tryz.underlying73, ⟨_, _, (by kernel_rfl : Tryz.prog.info? 3 = some Tryz.t3), rfl, rfl, rfl, rfl⟩, rfl, by decide⟩
theorem el_74 : El Tryz.prog 74 129 3 48 [.int .i64 0, .string ⟨⟨[]⟩⟩, .slice none 0 0] := ⟨Tryz.underlying74, ⟨_, _, (by kernel_rfl : Tryz.prog.info? 129 = some Tryz.t129), rfl, rfl, rfl, rfl⟩, rfl, by decide⟩
theorem el_90 : El Tryz.prog 90 209 1 16 [.nilIface] := ⟨Tryz.underlying90, ⟨_, _, (by kernel_rfl : Tryz.prog.info? 209 = some Tryz.t209), rfl, rfl, rfl, rfl⟩, rfl, by decide⟩
theorem el_91 : El Tryz.prog 91 257 5 48 [.int .i64 0, .int .i64 0, .int .i64 0, .int .i64 0, .string ⟨⟨[]⟩⟩] := ⟨Tryz.underlying91, ⟨_, _, (by kernel_rfl : Tryz.prog.info? 257 = some Tryz.t257), rfl, rfl, rfl, rfl⟩, rfl, by decide⟩
theorem el_94 : El Tryz.prog 94 108 4 72 [.string ⟨⟨[]⟩⟩, .string ⟨⟨[]⟩⟩, .string ⟨⟨[]⟩⟩, .slice none 0 0] := ⟨Tryz.underlying94, ⟨_, _, (by kernel_rfl : Tryz.prog.info? 108 = some Tryz.t108), rfl, rfl, rfl, rfl⟩, rfl, by decide⟩
theorem el_100 : El Tryz.prog 100 184 1 8 [.pointer none] := ⟨Tryz.underlying100, ⟨_, _, (by kernel_rfl : Tryz.prog.info? 184 = some Tryz.t184), rfl, rfl, rfl, rfl⟩, rfl, by decide⟩
theorem el_106 : El Tryz.prog 106 181 4 32 [.int .i64 0, .int .i64 0, .int .i64 0, .int .i64 0] := ⟨Tryz.underlying106, ⟨_, _, (by kernel_rfl : Tryz.prog.info? 181 = some Tryz.t181), rfl, rfl, rfl, rfl⟩, rfl, by decide⟩
theorem el_117 : El Tryz.prog 117 34 1 24 [.slice none 0 0] := ⟨Tryz.underlying117, ⟨_, _, (by kernel_rfl : Tryz.prog.info? 34 = some Tryz.t34), rfl, rfl, rfl, rfl⟩, rfl, by decide⟩
theorem el_136 : El Tryz.prog 136 35 1 24 [.slice none 0 0] := ⟨Tryz.underlying136, ⟨_, _, (by kernel_rfl : Tryz.prog.info? 35 = some Tryz.t35), rfl, rfl, rfl, rfl⟩, rfl, by decide⟩
theorem el_144 : El Tryz.prog 144 5 1 1 [.int .u8 0] := ⟨Tryz.underlying144, ⟨_, _, (by kernel_rfl : Tryz.prog.info? 5 = some Tryz.t5), rfl, rfl, rfl, rfl⟩, rfl, by decide⟩
theorem el_157 : El Tryz.prog 157 164 5 96 [.string ⟨⟨[]⟩⟩, .string ⟨⟨[]⟩⟩, .string ⟨⟨[]⟩⟩, .slice none 0 0, .slice none 0 0] := ⟨Tryz.underlying157, ⟨_, _, (by kernel_rfl : Tryz.prog.info? 164 = some Tryz.t164), rfl, rfl, rfl, rfl⟩, rfl, by decide⟩
theorem el_172 : El Tryz.prog 172 171 5 40 [.int .i64 0, .int .i64 0, .int .i64 0, .int .i64 0, .bool false] := ⟨Tryz.underlying172, ⟨_, _, (by kernel_rfl : Tryz.prog.info? 171 = some Tryz.t171), rfl, rfl, rfl, rfl⟩, rfl, by decide⟩
theorem el_188 : El Tryz.prog 188 230 7 88 [.string ⟨⟨[]⟩⟩, .string ⟨⟨[]⟩⟩, .int .i64 0, .int .i64 0, .bool false, .nilFunc, .slice none 0 0] := ⟨Tryz.underlying188, ⟨_, _, (by kernel_rfl : Tryz.prog.info? 230 = some Tryz.t230), rfl, rfl, rfl, rfl⟩, rfl, by decide⟩
theorem el_228 : El Tryz.prog 228 227 1 8 [.nilFunc] := ⟨Tryz.underlying228, ⟨_, _, (by kernel_rfl : Tryz.prog.info? 227 = some Tryz.t227), rfl, rfl, rfl, rfl⟩, rfl, by decide⟩
theorem el_250 : El Tryz.prog 250 39 1 16 [.nilIface] := ⟨Tryz.underlying250, ⟨_, _, (by kernel_rfl : Tryz.prog.info? 39 = some Tryz.t39), rfl, rfl, rfl, rfl⟩, rfl, by decide⟩
theorem B30 : Bld Tryz.prog 30 [.pointer none] := by
  refine ⟨Tryz.zeroValue30, _, Tryz.underlying30, rfl, fun i f h => ?_⟩
  match i, h with
  | 0, h => cases h; exact ⟨rfl, Tryz.sizeOf28⟩
  | i + 1, h => simp at h
theorem B37 : Bld Tryz.prog 37 [.pointer none, .pointer none, .slice none 0 0, .slice none 0 0] := by
  refine ⟨Tryz.zeroValue37, _, Tryz.underlying37, rfl, fun i f h => ?_⟩
  match i, h with
  | 0, h => cases h; exact ⟨rfl, Tryz.sizeOf32⟩
  | 1, h => cases h; exact ⟨rfl, Tryz.sizeOf32⟩
  | 2, h => cases h; exact ⟨rfl, Tryz.sizeOf34⟩
  | 3, h => cases h; exact ⟨rfl, Tryz.sizeOf35⟩
  | i + 4, h => simp at h
theorem B49 : Bld Tryz.prog 49 [.pointer none, .pointer none, .pointer none] := by
  refine ⟨Tryz.zeroValue49, _, Tryz.underlying49, rfl, fun i f h => ?_⟩
  match i, h with
  | 0, h => cases h; exact ⟨rfl, Tryz.sizeOf45⟩
  | 1, h => cases h; exact ⟨rfl, Tryz.sizeOf46⟩
  | 2, h => cases h; exact ⟨rfl, Tryz.sizeOf47⟩
  | i + 3, h => simp at h
theorem B53 : Bld Tryz.prog 53 [.int .i64 0, .int .i64 0, .int .i64 0, .string ⟨⟨[]⟩⟩] := by
  refine ⟨Tryz.zeroValue53, _, Tryz.underlying53, rfl, fun i f h => ?_⟩
  match i, h with
  | 0, h => cases h; exact ⟨rfl, Tryz.sizeOf51⟩
  | 1, h => cases h; exact ⟨rfl, Tryz.sizeOf3⟩
  | 2, h => cases h; exact ⟨rfl, Tryz.sizeOf3⟩
  | 3, h => cases h; exact ⟨rfl, Tryz.sizeOf9⟩
  | i + 4, h => simp at h
theorem B66 : Bld Tryz.prog 66 [.pointer none, .pointer none, .pointer none] := by
  refine ⟨Tryz.zeroValue66, _, Tryz.underlying66, rfl, fun i f h => ?_⟩
  match i, h with
  | 0, h => cases h; exact ⟨rfl, Tryz.sizeOf62⟩
  | 1, h => cases h; exact ⟨rfl, Tryz.sizeOf63⟩
  | 2, h => cases h; exact ⟨rfl, Tryz.sizeOf64⟩
  | i + 3, h => simp at h
theorem B76 : Bld Tryz.prog 76 [.slice none 0 0, .slice none 0 0, .slice none 0 0, .int .i64 0, .int .i64 0, .slice none 0 0] := by
  refine ⟨Tryz.zeroValue76, _, Tryz.underlying76, rfl, fun i f h => ?_⟩
  match i, h with
  | 0, h => cases h; exact ⟨rfl, Tryz.sizeOf72⟩
  | 1, h => cases h; exact ⟨rfl, Tryz.sizeOf72⟩
  | 2, h => cases h; exact ⟨rfl, Tryz.sizeOf73⟩
  | 3, h => cases h; exact ⟨rfl, Tryz.sizeOf3⟩
  | 4, h => cases h; exact ⟨rfl, Tryz.sizeOf3⟩
  | 5, h => cases h; exact ⟨rfl, Tryz.sizeOf74⟩
  | i + 6, h => simp at h
theorem B87 : Bld Tryz.prog 87 [.int .i64 0, .int .i64 0, .string ⟨⟨[]⟩⟩] := by
  refine ⟨Tryz.zeroValue87, _, Tryz.underlying87, rfl, fun i f h => ?_⟩
  match i, h with
  | 0, h => cases h; exact ⟨rfl, Tryz.sizeOf3⟩
  | 1, h => cases h; exact ⟨rfl, Tryz.sizeOf3⟩
  | 2, h => cases h; exact ⟨rfl, Tryz.sizeOf9⟩
  | i + 3, h => simp at h
theorem B93 : Bld Tryz.prog 93 [.pointer none, .pointer none, .slice none 0 0, .slice none 0 0, .int .i64 0, .int .i64 0] := by
  refine ⟨Tryz.zeroValue93, _, Tryz.underlying93, rfl, fun i f h => ?_⟩
  match i, h with
  | 0, h => cases h; exact ⟨rfl, Tryz.sizeOf45⟩
  | 1, h => cases h; exact ⟨rfl, Tryz.sizeOf46⟩
  | 2, h => cases h; exact ⟨rfl, Tryz.sizeOf90⟩
  | 3, h => cases h; exact ⟨rfl, Tryz.sizeOf91⟩
  | 4, h => cases h; exact ⟨rfl, Tryz.sizeOf3⟩
  | 5, h => cases h; exact ⟨rfl, Tryz.sizeOf3⟩
  | i + 6, h => simp at h
theorem B96 : Bld Tryz.prog 96 [.int .i64 0, .int .i64 0, .int .i64 0, .int .i64 0, .slice none 0 0] := by
  refine ⟨Tryz.zeroValue96, _, Tryz.underlying96, rfl, fun i f h => ?_⟩
  match i, h with
  | 0, h => cases h; exact ⟨rfl, Tryz.sizeOf3⟩
  | 1, h => cases h; exact ⟨rfl, Tryz.sizeOf3⟩
  | 2, h => cases h; exact ⟨rfl, Tryz.sizeOf3⟩
  | 3, h => cases h; exact ⟨rfl, Tryz.sizeOf3⟩
  | 4, h => cases h; exact ⟨rfl, Tryz.sizeOf94⟩
  | i + 5, h => simp at h
theorem B102 : Bld Tryz.prog 102 [.slice none 0 0, .int .i64 0, .int .i64 0] := by
  refine ⟨Tryz.zeroValue102, _, Tryz.underlying102, rfl, fun i f h => ?_⟩
  match i, h with
  | 0, h => cases h; exact ⟨rfl, Tryz.sizeOf100⟩
  | 1, h => cases h; exact ⟨rfl, Tryz.sizeOf3⟩
  | 2, h => cases h; exact ⟨rfl, Tryz.sizeOf3⟩
  | i + 3, h => simp at h
theorem B108 : Bld Tryz.prog 108 [.string ⟨⟨[]⟩⟩, .string ⟨⟨[]⟩⟩, .string ⟨⟨[]⟩⟩, .slice none 0 0] := by
  refine ⟨Tryz.zeroValue108, _, Tryz.underlying108, rfl, fun i f h => ?_⟩
  match i, h with
  | 0, h => cases h; exact ⟨rfl, Tryz.sizeOf9⟩
  | 1, h => cases h; exact ⟨rfl, Tryz.sizeOf9⟩
  | 2, h => cases h; exact ⟨rfl, Tryz.sizeOf9⟩
  | 3, h => cases h; exact ⟨rfl, Tryz.sizeOf106⟩
  | i + 4, h => simp at h
theorem B110 : Bld Tryz.prog 110 [.int .u8 0, .int .i64 0] := by
  refine ⟨Tryz.zeroValue110, _, Tryz.underlying110, rfl, fun i f h => ?_⟩
  match i, h with
  | 0, h => cases h; exact ⟨rfl, Tryz.sizeOf5⟩
  | 1, h => cases h; exact ⟨rfl, Tryz.sizeOf3⟩
  | i + 2, h => simp at h
theorem B119 : Bld Tryz.prog 119 [.pointer none, .slice none 0 0, .pointer none, .slice none 0 0, .int .i64 0, .int .i64 0, .int .i64 0, .int .i64 0, .bool false, .string ⟨⟨[]⟩⟩, .string ⟨⟨[]⟩⟩] := by
  refine ⟨Tryz.zeroValue119, _, Tryz.underlying119, rfl, fun i f h => ?_⟩
  match i, h with
  | 0, h => cases h; exact ⟨rfl, Tryz.sizeOf62⟩
  | 1, h => cases h; exact ⟨rfl, Tryz.sizeOf117⟩
  | 2, h => cases h; exact ⟨rfl, Tryz.sizeOf63⟩
  | 3, h => cases h; exact ⟨rfl, Tryz.sizeOf35⟩
  | 4, h => cases h; exact ⟨rfl, Tryz.sizeOf3⟩
  | 5, h => cases h; exact ⟨rfl, Tryz.sizeOf3⟩
  | 6, h => cases h; exact ⟨rfl, Tryz.sizeOf3⟩
  | 7, h => cases h; exact ⟨rfl, Tryz.sizeOf3⟩
  | 8, h => cases h; exact ⟨rfl, Tryz.sizeOf4⟩
  | 9, h => cases h; exact ⟨rfl, Tryz.sizeOf9⟩
  | 10, h => cases h; exact ⟨rfl, Tryz.sizeOf9⟩
  | i + 11, h => simp at h
theorem B125 : Bld Tryz.prog 125 [.int .i64 0, .int .i64 0, .nilIface] := by
  refine ⟨Tryz.zeroValue125, _, Tryz.underlying125, rfl, fun i f h => ?_⟩
  match i, h with
  | 0, h => cases h; exact ⟨rfl, Tryz.sizeOf3⟩
  | 1, h => cases h; exact ⟨rfl, Tryz.sizeOf3⟩
  | 2, h => cases h; exact ⟨rfl, Tryz.sizeOf39⟩
  | i + 3, h => simp at h
theorem B129 : Bld Tryz.prog 129 [.int .i64 0, .string ⟨⟨[]⟩⟩, .slice none 0 0] := by
  refine ⟨Tryz.zeroValue129, _, Tryz.underlying129, rfl, fun i f h => ?_⟩
  match i, h with
  | 0, h => cases h; exact ⟨rfl, Tryz.sizeOf3⟩
  | 1, h => cases h; exact ⟨rfl, Tryz.sizeOf9⟩
  | 2, h => cases h; exact ⟨rfl, Tryz.sizeOf34⟩
  | i + 3, h => simp at h
theorem B138 : Bld Tryz.prog 138 [.string ⟨⟨[]⟩⟩, .string ⟨⟨[]⟩⟩, .int .i64 0, .slice none 0 0] := by
  refine ⟨Tryz.zeroValue138, _, Tryz.underlying138, rfl, fun i f h => ?_⟩
  match i, h with
  | 0, h => cases h; exact ⟨rfl, Tryz.sizeOf9⟩
  | 1, h => cases h; exact ⟨rfl, Tryz.sizeOf9⟩
  | 2, h => cases h; exact ⟨rfl, Tryz.sizeOf3⟩
  | 3, h => cases h; exact ⟨rfl, Tryz.sizeOf136⟩
  | i + 4, h => simp at h
theorem B159 : Bld Tryz.prog 159 [.int .i64 0, .int .i64 0, .int .i64 0, .int .i64 0, .slice none 0 0] := by
  refine ⟨Tryz.zeroValue159, _, Tryz.underlying159, rfl, fun i f h => ?_⟩
  match i, h with
  | 0, h => cases h; exact ⟨rfl, Tryz.sizeOf3⟩
  | 1, h => cases h; exact ⟨rfl, Tryz.sizeOf3⟩
  | 2, h => cases h; exact ⟨rfl, Tryz.sizeOf3⟩
  | 3, h => cases h; exact ⟨rfl, Tryz.sizeOf3⟩
  | 4, h => cases h; exact ⟨rfl, Tryz.sizeOf157⟩
  | i + 5, h => simp at h
theorem B164 : Bld Tryz.prog 164 [.string ⟨⟨[]⟩⟩, .string ⟨⟨[]⟩⟩, .string ⟨⟨[]⟩⟩, .slice none 0 0, .slice none 0 0] := by
  refine ⟨Tryz.zeroValue164, _, Tryz.underlying164, rfl, fun i f h => ?_⟩
  match i, h with
  | 0, h => cases h; exact ⟨rfl, Tryz.sizeOf9⟩
  | 1, h => cases h; exact ⟨rfl, Tryz.sizeOf9⟩
  | 2, h => cases h; exact ⟨rfl, Tryz.sizeOf9⟩
  | 3, h => cases h; exact ⟨rfl, Tryz.sizeOf34⟩
  | 4, h => cases h; exact ⟨rfl, Tryz.sizeOf106⟩
  | i + 5, h => simp at h
theorem B171 : Bld Tryz.prog 171 [.int .i64 0, .int .i64 0, .int .i64 0, .int .i64 0, .bool false] := by
  refine ⟨Tryz.zeroValue171, _, Tryz.underlying171, rfl, fun i f h => ?_⟩
  match i, h with
  | 0, h => cases h; exact ⟨rfl, Tryz.sizeOf3⟩
  | 1, h => cases h; exact ⟨rfl, Tryz.sizeOf3⟩
  | 2, h => cases h; exact ⟨rfl, Tryz.sizeOf3⟩
  | 3, h => cases h; exact ⟨rfl, Tryz.sizeOf3⟩
  | 4, h => cases h; exact ⟨rfl, Tryz.sizeOf4⟩
  | i + 5, h => simp at h
theorem B174 : Bld Tryz.prog 174 [.slice none 0 0, .slice none 0 0] := by
  refine ⟨Tryz.zeroValue174, _, Tryz.underlying174, rfl, fun i f h => ?_⟩
  match i, h with
  | 0, h => cases h; exact ⟨rfl, Tryz.sizeOf144⟩
  | 1, h => cases h; exact ⟨rfl, Tryz.sizeOf172⟩
  | i + 2, h => simp at h
theorem B177 : Bld Tryz.prog 177 [.slice none 0 0, .int .i64 0] := by
  refine ⟨Tryz.zeroValue177, _, Tryz.underlying177, rfl, fun i f h => ?_⟩
  match i, h with
  | 0, h => cases h; exact ⟨rfl, Tryz.sizeOf144⟩
  | 1, h => cases h; exact ⟨rfl, Tryz.sizeOf3⟩
  | i + 2, h => simp at h
theorem B181 : Bld Tryz.prog 181 [.int .i64 0, .int .i64 0, .int .i64 0, .int .i64 0] := by
  refine ⟨Tryz.zeroValue181, _, Tryz.underlying181, rfl, fun i f h => ?_⟩
  match i, h with
  | 0, h => cases h; exact ⟨rfl, Tryz.sizeOf3⟩
  | 1, h => cases h; exact ⟨rfl, Tryz.sizeOf3⟩
  | 2, h => cases h; exact ⟨rfl, Tryz.sizeOf3⟩
  | 3, h => cases h; exact ⟨rfl, Tryz.sizeOf3⟩
  | i + 4, h => simp at h
theorem B191 : Bld Tryz.prog 191 [.pointer none, .pointer none, .slice none 0 0, .slice none 0 0, .slice none 0 0, .map none] := by
  refine ⟨Tryz.zeroValue191, _, Tryz.underlying191, rfl, fun i f h => ?_⟩
  match i, h with
  | 0, h => cases h; exact ⟨rfl, Tryz.sizeOf45⟩
  | 1, h => cases h; exact ⟨rfl, Tryz.sizeOf105⟩
  | 2, h => cases h; exact ⟨rfl, Tryz.sizeOf144⟩
  | 3, h => cases h; exact ⟨rfl, Tryz.sizeOf188⟩
  | 4, h => cases h; exact ⟨rfl, Tryz.sizeOf106⟩
  | 5, h => cases h; exact ⟨rfl, Tryz.sizeOf189⟩
  | i + 6, h => simp at h
theorem B230 : Bld Tryz.prog 230 [.string ⟨⟨[]⟩⟩, .string ⟨⟨[]⟩⟩, .int .i64 0, .int .i64 0, .bool false, .nilFunc, .slice none 0 0] := by
  refine ⟨Tryz.zeroValue230, _, Tryz.underlying230, rfl, fun i f h => ?_⟩
  match i, h with
  | 0, h => cases h; exact ⟨rfl, Tryz.sizeOf9⟩
  | 1, h => cases h; exact ⟨rfl, Tryz.sizeOf9⟩
  | 2, h => cases h; exact ⟨rfl, Tryz.sizeOf3⟩
  | 3, h => cases h; exact ⟨rfl, Tryz.sizeOf3⟩
  | 4, h => cases h; exact ⟨rfl, Tryz.sizeOf4⟩
  | 5, h => cases h; exact ⟨rfl, Tryz.sizeOf227⟩
  | 6, h => cases h; exact ⟨rfl, Tryz.sizeOf228⟩
  | i + 7, h => simp at h
theorem B235 : Bld Tryz.prog 235 [.string ⟨⟨[]⟩⟩, .string ⟨⟨[]⟩⟩] := by
  refine ⟨Tryz.zeroValue235, _, Tryz.underlying235, rfl, fun i f h => ?_⟩
  match i, h with
  | 0, h => cases h; exact ⟨rfl, Tryz.sizeOf9⟩
  | 1, h => cases h; exact ⟨rfl, Tryz.sizeOf9⟩
  | i + 2, h => simp at h
theorem B257 : Bld Tryz.prog 257 [.int .i64 0, .int .i64 0, .int .i64 0, .int .i64 0, .string ⟨⟨[]⟩⟩] := by
  refine ⟨Tryz.zeroValue257, _, Tryz.underlying257, rfl, fun i f h => ?_⟩
  match i, h with
  | 0, h => cases h; exact ⟨rfl, Tryz.sizeOf3⟩
  | 1, h => cases h; exact ⟨rfl, Tryz.sizeOf3⟩
  | 2, h => cases h; exact ⟨rfl, Tryz.sizeOf3⟩
  | 3, h => cases h; exact ⟨rfl, Tryz.sizeOf3⟩
  | 4, h => cases h; exact ⟨rfl, Tryz.sizeOf9⟩
  | i + 5, h => simp at h
theorem B305 : Bld Tryz.prog 305 [.nilIface] := by
  refine ⟨Tryz.zeroValue305, _, Tryz.underlying305, rfl, fun i f h => ?_⟩
  match i, h with
  | 0, h => cases h; exact ⟨rfl, Tryz.sizeOf39⟩
  | i + 1, h => simp at h
end Go.Sl
