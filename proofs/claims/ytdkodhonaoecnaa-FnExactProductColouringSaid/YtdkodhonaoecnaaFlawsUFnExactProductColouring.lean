/- The reading of laws_FnExactProductColouring, and its contract. No condition. -/
import Derived.Test.YtdkodhonaoecnaaTy
import Derived.Test.YtdkodhonaoecnaaS2Sl
import Derived.Test.YtdkodhonaoecnaaS9Law
import Derived.Test.YtdkodhonaoecnaaFimplUProductColouring
import Derived.Test.YtdkodhonaoecnaaFlawsUeqColouring
import Derived.Test.YtdkodhonaoecnaaFlawsUtoColouring
import Derived.Test.YtdkodhonaoecnaaFspecUProductColouring
namespace Go.Proofs.Ytdkodhonaoecnaa
open Go Go.RowKit Eng Mem
set_option linter.unusedVariables false
set_option maxRecDepth 100000
def V_laws_FnExactProductColouring (aX0 : Value) (aY1 : Value) (w : World) (K : Bool → World → Prop) : Prop :=
  (Pr Try.prog (Instr.box 35 aX0) w (.one .any) fun (aX2_2 : Value) w_1 => (Pr Try.prog (Instr.box 35 aY1) w_1 (.one .any) fun (aY3_4 : Value) w_3 => (∀ w_5, Drew w_3 w_5 → (QSub Try.prog (Instr.loadAt 35 aX2_2) w_5 .any fun (x10_6 : Value) => (QSub Try.prog (Instr.loadAt 35 aY3_4) w_5 .any fun (x12_7 : Value) => ((Fc Try.prog 25 #[x10_6] w_5 (.one .any) fun (x11_9 : Value) w_8 => (Keeps w_5 w_8 (((Fc Try.prog 25 #[x12_7] w_8 (.one .any) fun (x13_11 : Value) w_10 => (Keeps w_5 w_10 (((Fc Try.prog 24 #[x11_9, x13_11] w_10 (.two .any (.int .i64)) fun (x14_13 : Value × Int) w_12 => (Keeps w_5 w_12 ((Pr Try.prog (Instr.alloc 28 true (.tuple #[])) w_12 (.one .any) fun (w05_15 : Value) w_14 => (Keeps w_5 w_14 ((PrU Try.prog (Instr.storeAt 28 w05_15 x14_13.1) w_14 fun w_16 => (∀ w_18, Drew w_16 w_18 → (QSub Try.prog (Instr.loadAt 35 aX2_2) w_18 .any fun (x18_19 : Value) => (QSub Try.prog (Instr.loadAt 35 aY3_4) w_18 .any fun (x20_20 : Value) => ((Fc Try.prog 25 #[x18_19] w_18 (.one .any) fun (x19_22 : Value) w_21 => (Keeps w_18 w_21 (((Fc Try.prog 25 #[x20_20] w_21 (.one .any) fun (x21_24 : Value) w_23 => (Keeps w_18 w_23 (((Fc Try.prog 26 #[x19_22, x21_24] w_23 (.two .any (.int .i64)) fun (x22_26 : Value × Int) w_25 => (Keeps w_18 w_25 ((Pr Try.prog (Instr.alloc 28 true (.tuple #[])) w_25 (.one .any) fun (g07_28 : Value) w_27 => (Keeps w_18 w_27 ((PrU Try.prog (Instr.storeAt 28 g07_28 x22_26.1) w_27 fun w_29 => (QSub Try.prog (Instr.loadAt 28 g07_28) w_29 .any fun (x25_31 : Value) => (QSub Try.prog (Instr.loadAt 28 w05_15) w_29 .any fun (x26_32 : Value) => (Fc Try.prog 20 #[x25_31, x26_32] w_29 (.one .bool) fun (x27_34 : Bool) w_33 => (((!x27_34) = true → K false w_33) ∧ ((!x27_34) = false → (((x22_26.2 != x14_13.2) = true → K false w_33) ∧ ((x22_26.2 != x14_13.2) = false → K true w_33)))))))))))))) ∧ (Pr Try.prog (Instr.alloc 28 true (.tuple #[])) w_23 (.one .any) fun (g07_36 : Value) w_35 => (Keeps w_18 w_35 ((Fc Try.prog 26 #[x19_22, x21_24] w_35 (.two .any (.int .i64)) fun (x22_38 : Value × Int) w_37 => (Keeps w_18 w_37 ((PrU Try.prog (Instr.storeAt 28 g07_36 x22_38.1) w_37 fun w_39 => (QSub Try.prog (Instr.loadAt 28 g07_36) w_39 .any fun (x25_41 : Value) => (QSub Try.prog (Instr.loadAt 28 w05_15) w_39 .any fun (x26_42 : Value) => (Fc Try.prog 20 #[x25_41, x26_42] w_39 (.one .bool) fun (x27_44 : Bool) w_43 => (((!x27_44) = true → K false w_43) ∧ ((!x27_44) = false → (((x22_38.2 != x14_13.2) = true → K false w_43) ∧ ((x22_38.2 != x14_13.2) = false → K true w_43)))))))))))))))))) ∧ (Pr Try.prog (Instr.alloc 28 true (.tuple #[])) w_21 (.one .any) fun (g07_46 : Value) w_45 => (Keeps w_18 w_45 ((Fc Try.prog 25 #[x20_20] w_45 (.one .any) fun (x21_48 : Value) w_47 => (Keeps w_18 w_47 ((Fc Try.prog 26 #[x19_22, x21_48] w_47 (.two .any (.int .i64)) fun (x22_50 : Value × Int) w_49 => (Keeps w_18 w_49 ((PrU Try.prog (Instr.storeAt 28 g07_46 x22_50.1) w_49 fun w_51 => (QSub Try.prog (Instr.loadAt 28 g07_46) w_51 .any fun (x25_53 : Value) => (QSub Try.prog (Instr.loadAt 28 w05_15) w_51 .any fun (x26_54 : Value) => (Fc Try.prog 20 #[x25_53, x26_54] w_51 (.one .bool) fun (x27_56 : Bool) w_55 => (((!x27_56) = true → K false w_55) ∧ ((!x27_56) = false → (((x22_50.2 != x14_13.2) = true → K false w_55) ∧ ((x22_50.2 != x14_13.2) = false → K true w_55))))))))))))))))))))) ∧ (Pr Try.prog (Instr.alloc 28 true (.tuple #[])) w_18 (.one .any) fun (g07_58 : Value) w_57 => (Keeps w_18 w_57 ((Fc Try.prog 25 #[x18_19] w_57 (.one .any) fun (x19_60 : Value) w_59 => (Keeps w_18 w_59 ((Fc Try.prog 25 #[x20_20] w_59 (.one .any) fun (x21_62 : Value) w_61 => (Keeps w_18 w_61 ((Fc Try.prog 26 #[x19_60, x21_62] w_61 (.two .any (.int .i64)) fun (x22_64 : Value × Int) w_63 => (Keeps w_18 w_63 ((PrU Try.prog (Instr.storeAt 28 g07_58 x22_64.1) w_63 fun w_65 => (QSub Try.prog (Instr.loadAt 28 g07_58) w_65 .any fun (x25_67 : Value) => (QSub Try.prog (Instr.loadAt 28 w05_15) w_65 .any fun (x26_68 : Value) => (Fc Try.prog 20 #[x25_67, x26_68] w_65 (.one .bool) fun (x27_70 : Bool) w_69 => (((!x27_70) = true → K false w_69) ∧ ((!x27_70) = false → (((x22_64.2 != x14_13.2) = true → K false w_69) ∧ ((x22_64.2 != x14_13.2) = false → K true w_69))))))))))))))))))))))))))))))) ∧ (Pr Try.prog (Instr.alloc 28 true (.tuple #[])) w_10 (.one .any) fun (w05_72 : Value) w_71 => (Keeps w_5 w_71 ((Fc Try.prog 24 #[x11_9, x13_11] w_71 (.two .any (.int .i64)) fun (x14_74 : Value × Int) w_73 => (Keeps w_5 w_73 ((PrU Try.prog (Instr.storeAt 28 w05_72 x14_74.1) w_73 fun w_75 => (∀ w_77, Drew w_75 w_77 → (QSub Try.prog (Instr.loadAt 35 aX2_2) w_77 .any fun (x18_78 : Value) => (QSub Try.prog (Instr.loadAt 35 aY3_4) w_77 .any fun (x20_79 : Value) => ((Fc Try.prog 25 #[x18_78] w_77 (.one .any) fun (x19_81 : Value) w_80 => (Keeps w_77 w_80 (((Fc Try.prog 25 #[x20_79] w_80 (.one .any) fun (x21_83 : Value) w_82 => (Keeps w_77 w_82 (((Fc Try.prog 26 #[x19_81, x21_83] w_82 (.two .any (.int .i64)) fun (x22_85 : Value × Int) w_84 => (Keeps w_77 w_84 ((Pr Try.prog (Instr.alloc 28 true (.tuple #[])) w_84 (.one .any) fun (g07_87 : Value) w_86 => (Keeps w_77 w_86 ((PrU Try.prog (Instr.storeAt 28 g07_87 x22_85.1) w_86 fun w_88 => (QSub Try.prog (Instr.loadAt 28 g07_87) w_88 .any fun (x25_90 : Value) => (QSub Try.prog (Instr.loadAt 28 w05_72) w_88 .any fun (x26_91 : Value) => (Fc Try.prog 20 #[x25_90, x26_91] w_88 (.one .bool) fun (x27_93 : Bool) w_92 => (((!x27_93) = true → K false w_92) ∧ ((!x27_93) = false → (((x22_85.2 != x14_74.2) = true → K false w_92) ∧ ((x22_85.2 != x14_74.2) = false → K true w_92)))))))))))))) ∧ (Pr Try.prog (Instr.alloc 28 true (.tuple #[])) w_82 (.one .any) fun (g07_95 : Value) w_94 => (Keeps w_77 w_94 ((Fc Try.prog 26 #[x19_81, x21_83] w_94 (.two .any (.int .i64)) fun (x22_97 : Value × Int) w_96 => (Keeps w_77 w_96 ((PrU Try.prog (Instr.storeAt 28 g07_95 x22_97.1) w_96 fun w_98 => (QSub Try.prog (Instr.loadAt 28 g07_95) w_98 .any fun (x25_100 : Value) => (QSub Try.prog (Instr.loadAt 28 w05_72) w_98 .any fun (x26_101 : Value) => (Fc Try.prog 20 #[x25_100, x26_101] w_98 (.one .bool) fun (x27_103 : Bool) w_102 => (((!x27_103) = true → K false w_102) ∧ ((!x27_103) = false → (((x22_97.2 != x14_74.2) = true → K false w_102) ∧ ((x22_97.2 != x14_74.2) = false → K true w_102)))))))))))))))))) ∧ (Pr Try.prog (Instr.alloc 28 true (.tuple #[])) w_80 (.one .any) fun (g07_105 : Value) w_104 => (Keeps w_77 w_104 ((Fc Try.prog 25 #[x20_79] w_104 (.one .any) fun (x21_107 : Value) w_106 => (Keeps w_77 w_106 ((Fc Try.prog 26 #[x19_81, x21_107] w_106 (.two .any (.int .i64)) fun (x22_109 : Value × Int) w_108 => (Keeps w_77 w_108 ((PrU Try.prog (Instr.storeAt 28 g07_105 x22_109.1) w_108 fun w_110 => (QSub Try.prog (Instr.loadAt 28 g07_105) w_110 .any fun (x25_112 : Value) => (QSub Try.prog (Instr.loadAt 28 w05_72) w_110 .any fun (x26_113 : Value) => (Fc Try.prog 20 #[x25_112, x26_113] w_110 (.one .bool) fun (x27_115 : Bool) w_114 => (((!x27_115) = true → K false w_114) ∧ ((!x27_115) = false → (((x22_109.2 != x14_74.2) = true → K false w_114) ∧ ((x22_109.2 != x14_74.2) = false → K true w_114))))))))))))))))))))) ∧ (Pr Try.prog (Instr.alloc 28 true (.tuple #[])) w_77 (.one .any) fun (g07_117 : Value) w_116 => (Keeps w_77 w_116 ((Fc Try.prog 25 #[x18_78] w_116 (.one .any) fun (x19_119 : Value) w_118 => (Keeps w_77 w_118 ((Fc Try.prog 25 #[x20_79] w_118 (.one .any) fun (x21_121 : Value) w_120 => (Keeps w_77 w_120 ((Fc Try.prog 26 #[x19_119, x21_121] w_120 (.two .any (.int .i64)) fun (x22_123 : Value × Int) w_122 => (Keeps w_77 w_122 ((PrU Try.prog (Instr.storeAt 28 g07_117 x22_123.1) w_122 fun w_124 => (QSub Try.prog (Instr.loadAt 28 g07_117) w_124 .any fun (x25_126 : Value) => (QSub Try.prog (Instr.loadAt 28 w05_72) w_124 .any fun (x26_127 : Value) => (Fc Try.prog 20 #[x25_126, x26_127] w_124 (.one .bool) fun (x27_129 : Bool) w_128 => (((!x27_129) = true → K false w_128) ∧ ((!x27_129) = false → (((x22_123.2 != x14_74.2) = true → K false w_128) ∧ ((x22_123.2 != x14_74.2) = false → K true w_128))))))))))))))))))))))))))))))))))) ∧ (Pr Try.prog (Instr.alloc 28 true (.tuple #[])) w_8 (.one .any) fun (w05_131 : Value) w_130 => (Keeps w_5 w_130 ((Fc Try.prog 25 #[x12_7] w_130 (.one .any) fun (x13_133 : Value) w_132 => (Keeps w_5 w_132 ((Fc Try.prog 24 #[x11_9, x13_133] w_132 (.two .any (.int .i64)) fun (x14_135 : Value × Int) w_134 => (Keeps w_5 w_134 ((PrU Try.prog (Instr.storeAt 28 w05_131 x14_135.1) w_134 fun w_136 => (∀ w_138, Drew w_136 w_138 → (QSub Try.prog (Instr.loadAt 35 aX2_2) w_138 .any fun (x18_139 : Value) => (QSub Try.prog (Instr.loadAt 35 aY3_4) w_138 .any fun (x20_140 : Value) => ((Fc Try.prog 25 #[x18_139] w_138 (.one .any) fun (x19_142 : Value) w_141 => (Keeps w_138 w_141 (((Fc Try.prog 25 #[x20_140] w_141 (.one .any) fun (x21_144 : Value) w_143 => (Keeps w_138 w_143 (((Fc Try.prog 26 #[x19_142, x21_144] w_143 (.two .any (.int .i64)) fun (x22_146 : Value × Int) w_145 => (Keeps w_138 w_145 ((Pr Try.prog (Instr.alloc 28 true (.tuple #[])) w_145 (.one .any) fun (g07_148 : Value) w_147 => (Keeps w_138 w_147 ((PrU Try.prog (Instr.storeAt 28 g07_148 x22_146.1) w_147 fun w_149 => (QSub Try.prog (Instr.loadAt 28 g07_148) w_149 .any fun (x25_151 : Value) => (QSub Try.prog (Instr.loadAt 28 w05_131) w_149 .any fun (x26_152 : Value) => (Fc Try.prog 20 #[x25_151, x26_152] w_149 (.one .bool) fun (x27_154 : Bool) w_153 => (((!x27_154) = true → K false w_153) ∧ ((!x27_154) = false → (((x22_146.2 != x14_135.2) = true → K false w_153) ∧ ((x22_146.2 != x14_135.2) = false → K true w_153)))))))))))))) ∧ (Pr Try.prog (Instr.alloc 28 true (.tuple #[])) w_143 (.one .any) fun (g07_156 : Value) w_155 => (Keeps w_138 w_155 ((Fc Try.prog 26 #[x19_142, x21_144] w_155 (.two .any (.int .i64)) fun (x22_158 : Value × Int) w_157 => (Keeps w_138 w_157 ((PrU Try.prog (Instr.storeAt 28 g07_156 x22_158.1) w_157 fun w_159 => (QSub Try.prog (Instr.loadAt 28 g07_156) w_159 .any fun (x25_161 : Value) => (QSub Try.prog (Instr.loadAt 28 w05_131) w_159 .any fun (x26_162 : Value) => (Fc Try.prog 20 #[x25_161, x26_162] w_159 (.one .bool) fun (x27_164 : Bool) w_163 => (((!x27_164) = true → K false w_163) ∧ ((!x27_164) = false → (((x22_158.2 != x14_135.2) = true → K false w_163) ∧ ((x22_158.2 != x14_135.2) = false → K true w_163)))))))))))))))))) ∧ (Pr Try.prog (Instr.alloc 28 true (.tuple #[])) w_141 (.one .any) fun (g07_166 : Value) w_165 => (Keeps w_138 w_165 ((Fc Try.prog 25 #[x20_140] w_165 (.one .any) fun (x21_168 : Value) w_167 => (Keeps w_138 w_167 ((Fc Try.prog 26 #[x19_142, x21_168] w_167 (.two .any (.int .i64)) fun (x22_170 : Value × Int) w_169 => (Keeps w_138 w_169 ((PrU Try.prog (Instr.storeAt 28 g07_166 x22_170.1) w_169 fun w_171 => (QSub Try.prog (Instr.loadAt 28 g07_166) w_171 .any fun (x25_173 : Value) => (QSub Try.prog (Instr.loadAt 28 w05_131) w_171 .any fun (x26_174 : Value) => (Fc Try.prog 20 #[x25_173, x26_174] w_171 (.one .bool) fun (x27_176 : Bool) w_175 => (((!x27_176) = true → K false w_175) ∧ ((!x27_176) = false → (((x22_170.2 != x14_135.2) = true → K false w_175) ∧ ((x22_170.2 != x14_135.2) = false → K true w_175))))))))))))))))))))) ∧ (Pr Try.prog (Instr.alloc 28 true (.tuple #[])) w_138 (.one .any) fun (g07_178 : Value) w_177 => (Keeps w_138 w_177 ((Fc Try.prog 25 #[x18_139] w_177 (.one .any) fun (x19_180 : Value) w_179 => (Keeps w_138 w_179 ((Fc Try.prog 25 #[x20_140] w_179 (.one .any) fun (x21_182 : Value) w_181 => (Keeps w_138 w_181 ((Fc Try.prog 26 #[x19_180, x21_182] w_181 (.two .any (.int .i64)) fun (x22_184 : Value × Int) w_183 => (Keeps w_138 w_183 ((PrU Try.prog (Instr.storeAt 28 g07_178 x22_184.1) w_183 fun w_185 => (QSub Try.prog (Instr.loadAt 28 g07_178) w_185 .any fun (x25_187 : Value) => (QSub Try.prog (Instr.loadAt 28 w05_131) w_185 .any fun (x26_188 : Value) => (Fc Try.prog 20 #[x25_187, x26_188] w_185 (.one .bool) fun (x27_190 : Bool) w_189 => (((!x27_190) = true → K false w_189) ∧ ((!x27_190) = false → (((x22_184.2 != x14_135.2) = true → K false w_189) ∧ ((x22_184.2 != x14_135.2) = false → K true w_189)))))))))))))))))))))))))))))))))))))) ∧ (Pr Try.prog (Instr.alloc 28 true (.tuple #[])) w_5 (.one .any) fun (w05_192 : Value) w_191 => (Keeps w_5 w_191 ((Fc Try.prog 25 #[x10_6] w_191 (.one .any) fun (x11_194 : Value) w_193 => (Keeps w_5 w_193 ((Fc Try.prog 25 #[x12_7] w_193 (.one .any) fun (x13_196 : Value) w_195 => (Keeps w_5 w_195 ((Fc Try.prog 24 #[x11_194, x13_196] w_195 (.two .any (.int .i64)) fun (x14_198 : Value × Int) w_197 => (Keeps w_5 w_197 ((PrU Try.prog (Instr.storeAt 28 w05_192 x14_198.1) w_197 fun w_199 => (∀ w_201, Drew w_199 w_201 → (QSub Try.prog (Instr.loadAt 35 aX2_2) w_201 .any fun (x18_202 : Value) => (QSub Try.prog (Instr.loadAt 35 aY3_4) w_201 .any fun (x20_203 : Value) => ((Fc Try.prog 25 #[x18_202] w_201 (.one .any) fun (x19_205 : Value) w_204 => (Keeps w_201 w_204 (((Fc Try.prog 25 #[x20_203] w_204 (.one .any) fun (x21_207 : Value) w_206 => (Keeps w_201 w_206 (((Fc Try.prog 26 #[x19_205, x21_207] w_206 (.two .any (.int .i64)) fun (x22_209 : Value × Int) w_208 => (Keeps w_201 w_208 ((Pr Try.prog (Instr.alloc 28 true (.tuple #[])) w_208 (.one .any) fun (g07_211 : Value) w_210 => (Keeps w_201 w_210 ((PrU Try.prog (Instr.storeAt 28 g07_211 x22_209.1) w_210 fun w_212 => (QSub Try.prog (Instr.loadAt 28 g07_211) w_212 .any fun (x25_214 : Value) => (QSub Try.prog (Instr.loadAt 28 w05_192) w_212 .any fun (x26_215 : Value) => (Fc Try.prog 20 #[x25_214, x26_215] w_212 (.one .bool) fun (x27_217 : Bool) w_216 => (((!x27_217) = true → K false w_216) ∧ ((!x27_217) = false → (((x22_209.2 != x14_198.2) = true → K false w_216) ∧ ((x22_209.2 != x14_198.2) = false → K true w_216)))))))))))))) ∧ (Pr Try.prog (Instr.alloc 28 true (.tuple #[])) w_206 (.one .any) fun (g07_219 : Value) w_218 => (Keeps w_201 w_218 ((Fc Try.prog 26 #[x19_205, x21_207] w_218 (.two .any (.int .i64)) fun (x22_221 : Value × Int) w_220 => (Keeps w_201 w_220 ((PrU Try.prog (Instr.storeAt 28 g07_219 x22_221.1) w_220 fun w_222 => (QSub Try.prog (Instr.loadAt 28 g07_219) w_222 .any fun (x25_224 : Value) => (QSub Try.prog (Instr.loadAt 28 w05_192) w_222 .any fun (x26_225 : Value) => (Fc Try.prog 20 #[x25_224, x26_225] w_222 (.one .bool) fun (x27_227 : Bool) w_226 => (((!x27_227) = true → K false w_226) ∧ ((!x27_227) = false → (((x22_221.2 != x14_198.2) = true → K false w_226) ∧ ((x22_221.2 != x14_198.2) = false → K true w_226)))))))))))))))))) ∧ (Pr Try.prog (Instr.alloc 28 true (.tuple #[])) w_204 (.one .any) fun (g07_229 : Value) w_228 => (Keeps w_201 w_228 ((Fc Try.prog 25 #[x20_203] w_228 (.one .any) fun (x21_231 : Value) w_230 => (Keeps w_201 w_230 ((Fc Try.prog 26 #[x19_205, x21_231] w_230 (.two .any (.int .i64)) fun (x22_233 : Value × Int) w_232 => (Keeps w_201 w_232 ((PrU Try.prog (Instr.storeAt 28 g07_229 x22_233.1) w_232 fun w_234 => (QSub Try.prog (Instr.loadAt 28 g07_229) w_234 .any fun (x25_236 : Value) => (QSub Try.prog (Instr.loadAt 28 w05_192) w_234 .any fun (x26_237 : Value) => (Fc Try.prog 20 #[x25_236, x26_237] w_234 (.one .bool) fun (x27_239 : Bool) w_238 => (((!x27_239) = true → K false w_238) ∧ ((!x27_239) = false → (((x22_233.2 != x14_198.2) = true → K false w_238) ∧ ((x22_233.2 != x14_198.2) = false → K true w_238))))))))))))))))))))) ∧ (Pr Try.prog (Instr.alloc 28 true (.tuple #[])) w_201 (.one .any) fun (g07_241 : Value) w_240 => (Keeps w_201 w_240 ((Fc Try.prog 25 #[x18_202] w_240 (.one .any) fun (x19_243 : Value) w_242 => (Keeps w_201 w_242 ((Fc Try.prog 25 #[x20_203] w_242 (.one .any) fun (x21_245 : Value) w_244 => (Keeps w_201 w_244 ((Fc Try.prog 26 #[x19_243, x21_245] w_244 (.two .any (.int .i64)) fun (x22_247 : Value × Int) w_246 => (Keeps w_201 w_246 ((PrU Try.prog (Instr.storeAt 28 g07_241 x22_247.1) w_246 fun w_248 => (QSub Try.prog (Instr.loadAt 28 g07_241) w_248 .any fun (x25_250 : Value) => (QSub Try.prog (Instr.loadAt 28 w05_192) w_248 .any fun (x26_251 : Value) => (Fc Try.prog 20 #[x25_250, x26_251] w_248 (.one .bool) fun (x27_253 : Bool) w_252 => (((!x27_253) = true → K false w_252) ∧ ((!x27_253) = false → (((x22_247.2 != x14_198.2) = true → K false w_252) ∧ ((x22_247.2 != x14_198.2) = false → K true w_252)))))))))))))))))))))))))))))))))))))))))))

theorem eq_laws_FnExactProductColouring (aX0 : Value) (aY1 : Value) (w : World) (K : Bool → World → Prop) :
    W Try.prog ty (fun _ _ _ _ => False) (bodyOf Try.f6) (fnPost Try.prog Try.f6.results.toList (.one .bool) K) (frame0 [aX0, aY1] 34) w = V_laws_FnExactProductColouring aX0 aY1 w K := by
  kernel_rfl

theorem body_laws_FnExactProductColouring : Try.f6.body = some (bodyOf Try.f6) := by kernel_rfl
theorem name_laws_FnExactProductColouring : (Try.f6.name == "runtime.NumGoroutine") = false := by kernel_rfl

theorem walk_laws_FnExactProductColouring (aX0 : Value) (aY1 : Value) {w : World} {K : Bool → World → Prop} (h : V_laws_FnExactProductColouring aX0 aY1 w K) : Fc Try.prog 6 #[aX0, aY1] w (.one .bool) K :=
  fn_ok follows (sound_none _) Try.func6 name_laws_FnExactProductColouring body_laws_FnExactProductColouring Try.ntmps6 [aX0, aY1] (Eq.mpr (eq_laws_FnExactProductColouring aX0 aY1 w K) h)

-- uses S2Sl
-- uses S9Law
theorem c_laws_FnExactProductColouring {c0 : Col} {c1 : Col} {w : World} {K : Bool → World → Prop} (h0 : c0.Ok) (h1 : c1.Ok) (hK : ∀ w', Below w.heap.size w w' → K true w') :
    Fc Try.prog F_laws_FnExactProductColouring #[c0.val, c1.val] w (.one .bool) K := by
  refine walk_laws_FnExactProductColouring _ _ ?_
  have B := Below.refl w.heap.size w
  refine colL_box fun b4 w1 b4_l b4_h q2 f3 => ?_
  replace B := B.trans (q2.mono B.size)
  have q2_s := q2.size
  refine colL_box fun b8 w5 b8_l b8_h q6 f7 => ?_
  replace f3 := f3.keep q6
  replace B := B.trans (q6.mono B.size)
  have q6_s := q6.size
  intro w9 d10
  have q11 := d10.below w5.heap.size
  replace f3 := f3.keep q11
  replace f7 := f7.keep q11
  replace B := B.trans (q11.mono B.size)
  have q11_s := q11.size
  have c12 := Below.refl w9.heap.size w9
  refine colL_all h0 f3 ?_
  refine colL_all h1 f7 ?_
  refine ⟨?_, ?_⟩
  · refine c_laws_toColouring h0 fun w13 q14 => ?_
    replace f3 := f3.keep q14
    replace f7 := f7.keep q14
    replace B := B.trans (q14.mono B.size)
    replace c12 := c12.trans (q14.mono c12.size)
    have q14_s := q14.size
    refine ⟨c12, ?_⟩
    refine ⟨?_, ?_⟩
    · refine c_laws_toColouring h1 fun w16 q17 => ?_
      replace f3 := f3.keep q17
      replace f7 := f7.keep q17
      replace B := B.trans (q17.mono B.size)
      replace c12 := c12.trans (q17.mono c12.size)
      have q17_s := q17.size
      refine ⟨c12, ?_⟩
      refine ⟨?_, ?_⟩
      · refine c_spec_ProductColouring h0 h1 fun w19 q20 o22 => ?_
        replace f3 := f3.keep q20
        replace f7 := f7.keep q20
        replace B := B.trans (q20.mono B.size)
        replace c12 := c12.trans (q20.mono c12.size)
        have q20_s := q20.size
        refine ⟨c12, ?_⟩
        refine col_new fun b26 w23 b26_l b26_h q24 f25 => ?_
        replace f3 := f3.keep q24
        replace f7 := f7.keep q24
        replace B := B.trans (q24.mono B.size)
        replace c12 := c12.trans (q24.mono c12.size)
        have q24_s := q24.size
        refine ⟨c12, ?_⟩
        refine col_put f25 o22 fun w27 m28 m28_s f29 => ?_
        replace f3 := f3.mod m28 (by simp; omega)
        replace f7 := f7.mod m28 (by simp; omega)
        replace B := B.trans (m28.below B.size (by simp; omega))
        intro w30 d31
        have q32 := d31.below w27.heap.size
        replace f3 := f3.keep q32
        replace f7 := f7.keep q32
        replace f29 := f29.keep q32
        replace B := B.trans (q32.mono B.size)
        have q32_s := q32.size
        have c33 := Below.refl w30.heap.size w30
        refine colL_all h0 f3 ?_
        refine colL_all h1 f7 ?_
        refine ⟨?_, ?_⟩
        · refine c_laws_toColouring h0 fun w34 q35 => ?_
          replace f3 := f3.keep q35
          replace f7 := f7.keep q35
          replace f29 := f29.keep q35
          replace B := B.trans (q35.mono B.size)
          replace c33 := c33.trans (q35.mono c33.size)
          have q35_s := q35.size
          refine ⟨c33, ?_⟩
          refine ⟨?_, ?_⟩
          · refine c_laws_toColouring h1 fun w37 q38 => ?_
            replace f3 := f3.keep q38
            replace f7 := f7.keep q38
            replace f29 := f29.keep q38
            replace B := B.trans (q38.mono B.size)
            replace c33 := c33.trans (q38.mono c33.size)
            have q38_s := q38.size
            refine ⟨c33, ?_⟩
            refine ⟨?_, ?_⟩
            · refine c_impl_ProductColouring h0 h1 fun w40 q41 o43 => ?_
              replace f3 := f3.keep q41
              replace f7 := f7.keep q41
              replace f29 := f29.keep q41
              replace B := B.trans (q41.mono B.size)
              replace c33 := c33.trans (q41.mono c33.size)
              have q41_s := q41.size
              refine ⟨c33, ?_⟩
              refine col_new fun b47 w44 b47_l b47_h q45 f46 => ?_
              replace f3 := f3.keep q45
              replace f7 := f7.keep q45
              replace f29 := f29.keep q45
              replace B := B.trans (q45.mono B.size)
              replace c33 := c33.trans (q45.mono c33.size)
              have q45_s := q45.size
              refine ⟨c33, ?_⟩
              refine col_put f46 o43 fun w48 m49 m49_s f50 => ?_
              replace f3 := f3.mod m49 (by simp; omega)
              replace f7 := f7.mod m49 (by simp; omega)
              replace f29 := f29.mod m49 (by simp; omega)
              replace B := B.trans (m49.below B.size (by simp; omega))
              refine col_all o43 f50 ?_
              refine col_all o22 f29 ?_
              refine c_laws_eqColouring o43 o22 fun w51 q52 => ?_
              replace f3 := f3.keep q52
              replace f7 := f7.keep q52
              replace f29 := f29.keep q52
              replace f50 := f50.keep q52
              replace B := B.trans (q52.mono B.size)
              have q52_s := q52.size
              refine ⟨fun e54 => absurd rfl (notd_t e54), fun _ => ?_⟩
              refine ⟨fun e55 => absurd rfl (ne_t e55), fun _ => ?_⟩
              exact hK _ B
            · refine col_new fun b59 w56 b59_l b59_h q57 f58 => ?_
              replace f3 := f3.keep q57
              replace f7 := f7.keep q57
              replace f29 := f29.keep q57
              replace B := B.trans (q57.mono B.size)
              replace c33 := c33.trans (q57.mono c33.size)
              have q57_s := q57.size
              refine ⟨c33, ?_⟩
              refine c_impl_ProductColouring h0 h1 fun w60 q61 o63 => ?_
              replace f3 := f3.keep q61
              replace f7 := f7.keep q61
              replace f29 := f29.keep q61
              replace f58 := below_at q61 f58 (at_lt f58)
              replace B := B.trans (q61.mono B.size)
              replace c33 := c33.trans (q61.mono c33.size)
              have q61_s := q61.size
              refine ⟨c33, ?_⟩
              refine col_put f58 o63 fun w64 m65 m65_s f66 => ?_
              replace f3 := f3.mod m65 (by simp; omega)
              replace f7 := f7.mod m65 (by simp; omega)
              replace f29 := f29.mod m65 (by simp; omega)
              replace B := B.trans (m65.below B.size (by simp; omega))
              refine col_all o63 f66 ?_
              refine col_all o22 f29 ?_
              refine c_laws_eqColouring o63 o22 fun w67 q68 => ?_
              replace f3 := f3.keep q68
              replace f7 := f7.keep q68
              replace f29 := f29.keep q68
              replace f66 := f66.keep q68
              replace B := B.trans (q68.mono B.size)
              have q68_s := q68.size
              refine ⟨fun e70 => absurd rfl (notd_t e70), fun _ => ?_⟩
              refine ⟨fun e71 => absurd rfl (ne_t e71), fun _ => ?_⟩
              exact hK _ B
          · refine col_new fun b75 w72 b75_l b75_h q73 f74 => ?_
            replace f3 := f3.keep q73
            replace f7 := f7.keep q73
            replace f29 := f29.keep q73
            replace B := B.trans (q73.mono B.size)
            replace c33 := c33.trans (q73.mono c33.size)
            have q73_s := q73.size
            refine ⟨c33, ?_⟩
            refine c_laws_toColouring h1 fun w76 q77 => ?_
            replace f3 := f3.keep q77
            replace f7 := f7.keep q77
            replace f29 := f29.keep q77
            replace f74 := below_at q77 f74 (at_lt f74)
            replace B := B.trans (q77.mono B.size)
            replace c33 := c33.trans (q77.mono c33.size)
            have q77_s := q77.size
            refine ⟨c33, ?_⟩
            refine c_impl_ProductColouring h0 h1 fun w79 q80 o82 => ?_
            replace f3 := f3.keep q80
            replace f7 := f7.keep q80
            replace f29 := f29.keep q80
            replace f74 := below_at q80 f74 (at_lt f74)
            replace B := B.trans (q80.mono B.size)
            replace c33 := c33.trans (q80.mono c33.size)
            have q80_s := q80.size
            refine ⟨c33, ?_⟩
            refine col_put f74 o82 fun w83 m84 m84_s f85 => ?_
            replace f3 := f3.mod m84 (by simp; omega)
            replace f7 := f7.mod m84 (by simp; omega)
            replace f29 := f29.mod m84 (by simp; omega)
            replace B := B.trans (m84.below B.size (by simp; omega))
            refine col_all o82 f85 ?_
            refine col_all o22 f29 ?_
            refine c_laws_eqColouring o82 o22 fun w86 q87 => ?_
            replace f3 := f3.keep q87
            replace f7 := f7.keep q87
            replace f29 := f29.keep q87
            replace f85 := f85.keep q87
            replace B := B.trans (q87.mono B.size)
            have q87_s := q87.size
            refine ⟨fun e89 => absurd rfl (notd_t e89), fun _ => ?_⟩
            refine ⟨fun e90 => absurd rfl (ne_t e90), fun _ => ?_⟩
            exact hK _ B
        · refine col_new fun b94 w91 b94_l b94_h q92 f93 => ?_
          replace f3 := f3.keep q92
          replace f7 := f7.keep q92
          replace f29 := f29.keep q92
          replace B := B.trans (q92.mono B.size)
          replace c33 := c33.trans (q92.mono c33.size)
          have q92_s := q92.size
          refine ⟨c33, ?_⟩
          refine c_laws_toColouring h0 fun w95 q96 => ?_
          replace f3 := f3.keep q96
          replace f7 := f7.keep q96
          replace f29 := f29.keep q96
          replace f93 := below_at q96 f93 (at_lt f93)
          replace B := B.trans (q96.mono B.size)
          replace c33 := c33.trans (q96.mono c33.size)
          have q96_s := q96.size
          refine ⟨c33, ?_⟩
          refine c_laws_toColouring h1 fun w98 q99 => ?_
          replace f3 := f3.keep q99
          replace f7 := f7.keep q99
          replace f29 := f29.keep q99
          replace f93 := below_at q99 f93 (at_lt f93)
          replace B := B.trans (q99.mono B.size)
          replace c33 := c33.trans (q99.mono c33.size)
          have q99_s := q99.size
          refine ⟨c33, ?_⟩
          refine c_impl_ProductColouring h0 h1 fun w101 q102 o104 => ?_
          replace f3 := f3.keep q102
          replace f7 := f7.keep q102
          replace f29 := f29.keep q102
          replace f93 := below_at q102 f93 (at_lt f93)
          replace B := B.trans (q102.mono B.size)
          replace c33 := c33.trans (q102.mono c33.size)
          have q102_s := q102.size
          refine ⟨c33, ?_⟩
          refine col_put f93 o104 fun w105 m106 m106_s f107 => ?_
          replace f3 := f3.mod m106 (by simp; omega)
          replace f7 := f7.mod m106 (by simp; omega)
          replace f29 := f29.mod m106 (by simp; omega)
          replace B := B.trans (m106.below B.size (by simp; omega))
          refine col_all o104 f107 ?_
          refine col_all o22 f29 ?_
          refine c_laws_eqColouring o104 o22 fun w108 q109 => ?_
          replace f3 := f3.keep q109
          replace f7 := f7.keep q109
          replace f29 := f29.keep q109
          replace f107 := f107.keep q109
          replace B := B.trans (q109.mono B.size)
          have q109_s := q109.size
          refine ⟨fun e111 => absurd rfl (notd_t e111), fun _ => ?_⟩
          refine ⟨fun e112 => absurd rfl (ne_t e112), fun _ => ?_⟩
          exact hK _ B
      · refine col_new fun b116 w113 b116_l b116_h q114 f115 => ?_
        replace f3 := f3.keep q114
        replace f7 := f7.keep q114
        replace B := B.trans (q114.mono B.size)
        replace c12 := c12.trans (q114.mono c12.size)
        have q114_s := q114.size
        refine ⟨c12, ?_⟩
        refine c_spec_ProductColouring h0 h1 fun w117 q118 o120 => ?_
        replace f3 := f3.keep q118
        replace f7 := f7.keep q118
        replace f115 := below_at q118 f115 (at_lt f115)
        replace B := B.trans (q118.mono B.size)
        replace c12 := c12.trans (q118.mono c12.size)
        have q118_s := q118.size
        refine ⟨c12, ?_⟩
        refine col_put f115 o120 fun w121 m122 m122_s f123 => ?_
        replace f3 := f3.mod m122 (by simp; omega)
        replace f7 := f7.mod m122 (by simp; omega)
        replace B := B.trans (m122.below B.size (by simp; omega))
        intro w124 d125
        have q126 := d125.below w121.heap.size
        replace f3 := f3.keep q126
        replace f7 := f7.keep q126
        replace f123 := f123.keep q126
        replace B := B.trans (q126.mono B.size)
        have q126_s := q126.size
        have c127 := Below.refl w124.heap.size w124
        refine colL_all h0 f3 ?_
        refine colL_all h1 f7 ?_
        refine ⟨?_, ?_⟩
        · refine c_laws_toColouring h0 fun w128 q129 => ?_
          replace f3 := f3.keep q129
          replace f7 := f7.keep q129
          replace f123 := f123.keep q129
          replace B := B.trans (q129.mono B.size)
          replace c127 := c127.trans (q129.mono c127.size)
          have q129_s := q129.size
          refine ⟨c127, ?_⟩
          refine ⟨?_, ?_⟩
          · refine c_laws_toColouring h1 fun w131 q132 => ?_
            replace f3 := f3.keep q132
            replace f7 := f7.keep q132
            replace f123 := f123.keep q132
            replace B := B.trans (q132.mono B.size)
            replace c127 := c127.trans (q132.mono c127.size)
            have q132_s := q132.size
            refine ⟨c127, ?_⟩
            refine ⟨?_, ?_⟩
            · refine c_impl_ProductColouring h0 h1 fun w134 q135 o137 => ?_
              replace f3 := f3.keep q135
              replace f7 := f7.keep q135
              replace f123 := f123.keep q135
              replace B := B.trans (q135.mono B.size)
              replace c127 := c127.trans (q135.mono c127.size)
              have q135_s := q135.size
              refine ⟨c127, ?_⟩
              refine col_new fun b141 w138 b141_l b141_h q139 f140 => ?_
              replace f3 := f3.keep q139
              replace f7 := f7.keep q139
              replace f123 := f123.keep q139
              replace B := B.trans (q139.mono B.size)
              replace c127 := c127.trans (q139.mono c127.size)
              have q139_s := q139.size
              refine ⟨c127, ?_⟩
              refine col_put f140 o137 fun w142 m143 m143_s f144 => ?_
              replace f3 := f3.mod m143 (by simp; omega)
              replace f7 := f7.mod m143 (by simp; omega)
              replace f123 := f123.mod m143 (by simp; omega)
              replace B := B.trans (m143.below B.size (by simp; omega))
              refine col_all o137 f144 ?_
              refine col_all o120 f123 ?_
              refine c_laws_eqColouring o137 o120 fun w145 q146 => ?_
              replace f3 := f3.keep q146
              replace f7 := f7.keep q146
              replace f123 := f123.keep q146
              replace f144 := f144.keep q146
              replace B := B.trans (q146.mono B.size)
              have q146_s := q146.size
              refine ⟨fun e148 => absurd rfl (notd_t e148), fun _ => ?_⟩
              refine ⟨fun e149 => absurd rfl (ne_t e149), fun _ => ?_⟩
              exact hK _ B
            · refine col_new fun b153 w150 b153_l b153_h q151 f152 => ?_
              replace f3 := f3.keep q151
              replace f7 := f7.keep q151
              replace f123 := f123.keep q151
              replace B := B.trans (q151.mono B.size)
              replace c127 := c127.trans (q151.mono c127.size)
              have q151_s := q151.size
              refine ⟨c127, ?_⟩
              refine c_impl_ProductColouring h0 h1 fun w154 q155 o157 => ?_
              replace f3 := f3.keep q155
              replace f7 := f7.keep q155
              replace f123 := f123.keep q155
              replace f152 := below_at q155 f152 (at_lt f152)
              replace B := B.trans (q155.mono B.size)
              replace c127 := c127.trans (q155.mono c127.size)
              have q155_s := q155.size
              refine ⟨c127, ?_⟩
              refine col_put f152 o157 fun w158 m159 m159_s f160 => ?_
              replace f3 := f3.mod m159 (by simp; omega)
              replace f7 := f7.mod m159 (by simp; omega)
              replace f123 := f123.mod m159 (by simp; omega)
              replace B := B.trans (m159.below B.size (by simp; omega))
              refine col_all o157 f160 ?_
              refine col_all o120 f123 ?_
              refine c_laws_eqColouring o157 o120 fun w161 q162 => ?_
              replace f3 := f3.keep q162
              replace f7 := f7.keep q162
              replace f123 := f123.keep q162
              replace f160 := f160.keep q162
              replace B := B.trans (q162.mono B.size)
              have q162_s := q162.size
              refine ⟨fun e164 => absurd rfl (notd_t e164), fun _ => ?_⟩
              refine ⟨fun e165 => absurd rfl (ne_t e165), fun _ => ?_⟩
              exact hK _ B
          · refine col_new fun b169 w166 b169_l b169_h q167 f168 => ?_
            replace f3 := f3.keep q167
            replace f7 := f7.keep q167
            replace f123 := f123.keep q167
            replace B := B.trans (q167.mono B.size)
            replace c127 := c127.trans (q167.mono c127.size)
            have q167_s := q167.size
            refine ⟨c127, ?_⟩
            refine c_laws_toColouring h1 fun w170 q171 => ?_
            replace f3 := f3.keep q171
            replace f7 := f7.keep q171
            replace f123 := f123.keep q171
            replace f168 := below_at q171 f168 (at_lt f168)
            replace B := B.trans (q171.mono B.size)
            replace c127 := c127.trans (q171.mono c127.size)
            have q171_s := q171.size
            refine ⟨c127, ?_⟩
            refine c_impl_ProductColouring h0 h1 fun w173 q174 o176 => ?_
            replace f3 := f3.keep q174
            replace f7 := f7.keep q174
            replace f123 := f123.keep q174
            replace f168 := below_at q174 f168 (at_lt f168)
            replace B := B.trans (q174.mono B.size)
            replace c127 := c127.trans (q174.mono c127.size)
            have q174_s := q174.size
            refine ⟨c127, ?_⟩
            refine col_put f168 o176 fun w177 m178 m178_s f179 => ?_
            replace f3 := f3.mod m178 (by simp; omega)
            replace f7 := f7.mod m178 (by simp; omega)
            replace f123 := f123.mod m178 (by simp; omega)
            replace B := B.trans (m178.below B.size (by simp; omega))
            refine col_all o176 f179 ?_
            refine col_all o120 f123 ?_
            refine c_laws_eqColouring o176 o120 fun w180 q181 => ?_
            replace f3 := f3.keep q181
            replace f7 := f7.keep q181
            replace f123 := f123.keep q181
            replace f179 := f179.keep q181
            replace B := B.trans (q181.mono B.size)
            have q181_s := q181.size
            refine ⟨fun e183 => absurd rfl (notd_t e183), fun _ => ?_⟩
            refine ⟨fun e184 => absurd rfl (ne_t e184), fun _ => ?_⟩
            exact hK _ B
        · refine col_new fun b188 w185 b188_l b188_h q186 f187 => ?_
          replace f3 := f3.keep q186
          replace f7 := f7.keep q186
          replace f123 := f123.keep q186
          replace B := B.trans (q186.mono B.size)
          replace c127 := c127.trans (q186.mono c127.size)
          have q186_s := q186.size
          refine ⟨c127, ?_⟩
          refine c_laws_toColouring h0 fun w189 q190 => ?_
          replace f3 := f3.keep q190
          replace f7 := f7.keep q190
          replace f123 := f123.keep q190
          replace f187 := below_at q190 f187 (at_lt f187)
          replace B := B.trans (q190.mono B.size)
          replace c127 := c127.trans (q190.mono c127.size)
          have q190_s := q190.size
          refine ⟨c127, ?_⟩
          refine c_laws_toColouring h1 fun w192 q193 => ?_
          replace f3 := f3.keep q193
          replace f7 := f7.keep q193
          replace f123 := f123.keep q193
          replace f187 := below_at q193 f187 (at_lt f187)
          replace B := B.trans (q193.mono B.size)
          replace c127 := c127.trans (q193.mono c127.size)
          have q193_s := q193.size
          refine ⟨c127, ?_⟩
          refine c_impl_ProductColouring h0 h1 fun w195 q196 o198 => ?_
          replace f3 := f3.keep q196
          replace f7 := f7.keep q196
          replace f123 := f123.keep q196
          replace f187 := below_at q196 f187 (at_lt f187)
          replace B := B.trans (q196.mono B.size)
          replace c127 := c127.trans (q196.mono c127.size)
          have q196_s := q196.size
          refine ⟨c127, ?_⟩
          refine col_put f187 o198 fun w199 m200 m200_s f201 => ?_
          replace f3 := f3.mod m200 (by simp; omega)
          replace f7 := f7.mod m200 (by simp; omega)
          replace f123 := f123.mod m200 (by simp; omega)
          replace B := B.trans (m200.below B.size (by simp; omega))
          refine col_all o198 f201 ?_
          refine col_all o120 f123 ?_
          refine c_laws_eqColouring o198 o120 fun w202 q203 => ?_
          replace f3 := f3.keep q203
          replace f7 := f7.keep q203
          replace f123 := f123.keep q203
          replace f201 := f201.keep q203
          replace B := B.trans (q203.mono B.size)
          have q203_s := q203.size
          refine ⟨fun e205 => absurd rfl (notd_t e205), fun _ => ?_⟩
          refine ⟨fun e206 => absurd rfl (ne_t e206), fun _ => ?_⟩
          exact hK _ B
    · refine col_new fun b210 w207 b210_l b210_h q208 f209 => ?_
      replace f3 := f3.keep q208
      replace f7 := f7.keep q208
      replace B := B.trans (q208.mono B.size)
      replace c12 := c12.trans (q208.mono c12.size)
      have q208_s := q208.size
      refine ⟨c12, ?_⟩
      refine c_laws_toColouring h1 fun w211 q212 => ?_
      replace f3 := f3.keep q212
      replace f7 := f7.keep q212
      replace f209 := below_at q212 f209 (at_lt f209)
      replace B := B.trans (q212.mono B.size)
      replace c12 := c12.trans (q212.mono c12.size)
      have q212_s := q212.size
      refine ⟨c12, ?_⟩
      refine c_spec_ProductColouring h0 h1 fun w214 q215 o217 => ?_
      replace f3 := f3.keep q215
      replace f7 := f7.keep q215
      replace f209 := below_at q215 f209 (at_lt f209)
      replace B := B.trans (q215.mono B.size)
      replace c12 := c12.trans (q215.mono c12.size)
      have q215_s := q215.size
      refine ⟨c12, ?_⟩
      refine col_put f209 o217 fun w218 m219 m219_s f220 => ?_
      replace f3 := f3.mod m219 (by simp; omega)
      replace f7 := f7.mod m219 (by simp; omega)
      replace B := B.trans (m219.below B.size (by simp; omega))
      intro w221 d222
      have q223 := d222.below w218.heap.size
      replace f3 := f3.keep q223
      replace f7 := f7.keep q223
      replace f220 := f220.keep q223
      replace B := B.trans (q223.mono B.size)
      have q223_s := q223.size
      have c224 := Below.refl w221.heap.size w221
      refine colL_all h0 f3 ?_
      refine colL_all h1 f7 ?_
      refine ⟨?_, ?_⟩
      · refine c_laws_toColouring h0 fun w225 q226 => ?_
        replace f3 := f3.keep q226
        replace f7 := f7.keep q226
        replace f220 := f220.keep q226
        replace B := B.trans (q226.mono B.size)
        replace c224 := c224.trans (q226.mono c224.size)
        have q226_s := q226.size
        refine ⟨c224, ?_⟩
        refine ⟨?_, ?_⟩
        · refine c_laws_toColouring h1 fun w228 q229 => ?_
          replace f3 := f3.keep q229
          replace f7 := f7.keep q229
          replace f220 := f220.keep q229
          replace B := B.trans (q229.mono B.size)
          replace c224 := c224.trans (q229.mono c224.size)
          have q229_s := q229.size
          refine ⟨c224, ?_⟩
          refine ⟨?_, ?_⟩
          · refine c_impl_ProductColouring h0 h1 fun w231 q232 o234 => ?_
            replace f3 := f3.keep q232
            replace f7 := f7.keep q232
            replace f220 := f220.keep q232
            replace B := B.trans (q232.mono B.size)
            replace c224 := c224.trans (q232.mono c224.size)
            have q232_s := q232.size
            refine ⟨c224, ?_⟩
            refine col_new fun b238 w235 b238_l b238_h q236 f237 => ?_
            replace f3 := f3.keep q236
            replace f7 := f7.keep q236
            replace f220 := f220.keep q236
            replace B := B.trans (q236.mono B.size)
            replace c224 := c224.trans (q236.mono c224.size)
            have q236_s := q236.size
            refine ⟨c224, ?_⟩
            refine col_put f237 o234 fun w239 m240 m240_s f241 => ?_
            replace f3 := f3.mod m240 (by simp; omega)
            replace f7 := f7.mod m240 (by simp; omega)
            replace f220 := f220.mod m240 (by simp; omega)
            replace B := B.trans (m240.below B.size (by simp; omega))
            refine col_all o234 f241 ?_
            refine col_all o217 f220 ?_
            refine c_laws_eqColouring o234 o217 fun w242 q243 => ?_
            replace f3 := f3.keep q243
            replace f7 := f7.keep q243
            replace f220 := f220.keep q243
            replace f241 := f241.keep q243
            replace B := B.trans (q243.mono B.size)
            have q243_s := q243.size
            refine ⟨fun e245 => absurd rfl (notd_t e245), fun _ => ?_⟩
            refine ⟨fun e246 => absurd rfl (ne_t e246), fun _ => ?_⟩
            exact hK _ B
          · refine col_new fun b250 w247 b250_l b250_h q248 f249 => ?_
            replace f3 := f3.keep q248
            replace f7 := f7.keep q248
            replace f220 := f220.keep q248
            replace B := B.trans (q248.mono B.size)
            replace c224 := c224.trans (q248.mono c224.size)
            have q248_s := q248.size
            refine ⟨c224, ?_⟩
            refine c_impl_ProductColouring h0 h1 fun w251 q252 o254 => ?_
            replace f3 := f3.keep q252
            replace f7 := f7.keep q252
            replace f220 := f220.keep q252
            replace f249 := below_at q252 f249 (at_lt f249)
            replace B := B.trans (q252.mono B.size)
            replace c224 := c224.trans (q252.mono c224.size)
            have q252_s := q252.size
            refine ⟨c224, ?_⟩
            refine col_put f249 o254 fun w255 m256 m256_s f257 => ?_
            replace f3 := f3.mod m256 (by simp; omega)
            replace f7 := f7.mod m256 (by simp; omega)
            replace f220 := f220.mod m256 (by simp; omega)
            replace B := B.trans (m256.below B.size (by simp; omega))
            refine col_all o254 f257 ?_
            refine col_all o217 f220 ?_
            refine c_laws_eqColouring o254 o217 fun w258 q259 => ?_
            replace f3 := f3.keep q259
            replace f7 := f7.keep q259
            replace f220 := f220.keep q259
            replace f257 := f257.keep q259
            replace B := B.trans (q259.mono B.size)
            have q259_s := q259.size
            refine ⟨fun e261 => absurd rfl (notd_t e261), fun _ => ?_⟩
            refine ⟨fun e262 => absurd rfl (ne_t e262), fun _ => ?_⟩
            exact hK _ B
        · refine col_new fun b266 w263 b266_l b266_h q264 f265 => ?_
          replace f3 := f3.keep q264
          replace f7 := f7.keep q264
          replace f220 := f220.keep q264
          replace B := B.trans (q264.mono B.size)
          replace c224 := c224.trans (q264.mono c224.size)
          have q264_s := q264.size
          refine ⟨c224, ?_⟩
          refine c_laws_toColouring h1 fun w267 q268 => ?_
          replace f3 := f3.keep q268
          replace f7 := f7.keep q268
          replace f220 := f220.keep q268
          replace f265 := below_at q268 f265 (at_lt f265)
          replace B := B.trans (q268.mono B.size)
          replace c224 := c224.trans (q268.mono c224.size)
          have q268_s := q268.size
          refine ⟨c224, ?_⟩
          refine c_impl_ProductColouring h0 h1 fun w270 q271 o273 => ?_
          replace f3 := f3.keep q271
          replace f7 := f7.keep q271
          replace f220 := f220.keep q271
          replace f265 := below_at q271 f265 (at_lt f265)
          replace B := B.trans (q271.mono B.size)
          replace c224 := c224.trans (q271.mono c224.size)
          have q271_s := q271.size
          refine ⟨c224, ?_⟩
          refine col_put f265 o273 fun w274 m275 m275_s f276 => ?_
          replace f3 := f3.mod m275 (by simp; omega)
          replace f7 := f7.mod m275 (by simp; omega)
          replace f220 := f220.mod m275 (by simp; omega)
          replace B := B.trans (m275.below B.size (by simp; omega))
          refine col_all o273 f276 ?_
          refine col_all o217 f220 ?_
          refine c_laws_eqColouring o273 o217 fun w277 q278 => ?_
          replace f3 := f3.keep q278
          replace f7 := f7.keep q278
          replace f220 := f220.keep q278
          replace f276 := f276.keep q278
          replace B := B.trans (q278.mono B.size)
          have q278_s := q278.size
          refine ⟨fun e280 => absurd rfl (notd_t e280), fun _ => ?_⟩
          refine ⟨fun e281 => absurd rfl (ne_t e281), fun _ => ?_⟩
          exact hK _ B
      · refine col_new fun b285 w282 b285_l b285_h q283 f284 => ?_
        replace f3 := f3.keep q283
        replace f7 := f7.keep q283
        replace f220 := f220.keep q283
        replace B := B.trans (q283.mono B.size)
        replace c224 := c224.trans (q283.mono c224.size)
        have q283_s := q283.size
        refine ⟨c224, ?_⟩
        refine c_laws_toColouring h0 fun w286 q287 => ?_
        replace f3 := f3.keep q287
        replace f7 := f7.keep q287
        replace f220 := f220.keep q287
        replace f284 := below_at q287 f284 (at_lt f284)
        replace B := B.trans (q287.mono B.size)
        replace c224 := c224.trans (q287.mono c224.size)
        have q287_s := q287.size
        refine ⟨c224, ?_⟩
        refine c_laws_toColouring h1 fun w289 q290 => ?_
        replace f3 := f3.keep q290
        replace f7 := f7.keep q290
        replace f220 := f220.keep q290
        replace f284 := below_at q290 f284 (at_lt f284)
        replace B := B.trans (q290.mono B.size)
        replace c224 := c224.trans (q290.mono c224.size)
        have q290_s := q290.size
        refine ⟨c224, ?_⟩
        refine c_impl_ProductColouring h0 h1 fun w292 q293 o295 => ?_
        replace f3 := f3.keep q293
        replace f7 := f7.keep q293
        replace f220 := f220.keep q293
        replace f284 := below_at q293 f284 (at_lt f284)
        replace B := B.trans (q293.mono B.size)
        replace c224 := c224.trans (q293.mono c224.size)
        have q293_s := q293.size
        refine ⟨c224, ?_⟩
        refine col_put f284 o295 fun w296 m297 m297_s f298 => ?_
        replace f3 := f3.mod m297 (by simp; omega)
        replace f7 := f7.mod m297 (by simp; omega)
        replace f220 := f220.mod m297 (by simp; omega)
        replace B := B.trans (m297.below B.size (by simp; omega))
        refine col_all o295 f298 ?_
        refine col_all o217 f220 ?_
        refine c_laws_eqColouring o295 o217 fun w299 q300 => ?_
        replace f3 := f3.keep q300
        replace f7 := f7.keep q300
        replace f220 := f220.keep q300
        replace f298 := f298.keep q300
        replace B := B.trans (q300.mono B.size)
        have q300_s := q300.size
        refine ⟨fun e302 => absurd rfl (notd_t e302), fun _ => ?_⟩
        refine ⟨fun e303 => absurd rfl (ne_t e303), fun _ => ?_⟩
        exact hK _ B
  · refine col_new fun b307 w304 b307_l b307_h q305 f306 => ?_
    replace f3 := f3.keep q305
    replace f7 := f7.keep q305
    replace B := B.trans (q305.mono B.size)
    replace c12 := c12.trans (q305.mono c12.size)
    have q305_s := q305.size
    refine ⟨c12, ?_⟩
    refine c_laws_toColouring h0 fun w308 q309 => ?_
    replace f3 := f3.keep q309
    replace f7 := f7.keep q309
    replace f306 := below_at q309 f306 (at_lt f306)
    replace B := B.trans (q309.mono B.size)
    replace c12 := c12.trans (q309.mono c12.size)
    have q309_s := q309.size
    refine ⟨c12, ?_⟩
    refine c_laws_toColouring h1 fun w311 q312 => ?_
    replace f3 := f3.keep q312
    replace f7 := f7.keep q312
    replace f306 := below_at q312 f306 (at_lt f306)
    replace B := B.trans (q312.mono B.size)
    replace c12 := c12.trans (q312.mono c12.size)
    have q312_s := q312.size
    refine ⟨c12, ?_⟩
    refine c_spec_ProductColouring h0 h1 fun w314 q315 o317 => ?_
    replace f3 := f3.keep q315
    replace f7 := f7.keep q315
    replace f306 := below_at q315 f306 (at_lt f306)
    replace B := B.trans (q315.mono B.size)
    replace c12 := c12.trans (q315.mono c12.size)
    have q315_s := q315.size
    refine ⟨c12, ?_⟩
    refine col_put f306 o317 fun w318 m319 m319_s f320 => ?_
    replace f3 := f3.mod m319 (by simp; omega)
    replace f7 := f7.mod m319 (by simp; omega)
    replace B := B.trans (m319.below B.size (by simp; omega))
    intro w321 d322
    have q323 := d322.below w318.heap.size
    replace f3 := f3.keep q323
    replace f7 := f7.keep q323
    replace f320 := f320.keep q323
    replace B := B.trans (q323.mono B.size)
    have q323_s := q323.size
    have c324 := Below.refl w321.heap.size w321
    refine colL_all h0 f3 ?_
    refine colL_all h1 f7 ?_
    refine ⟨?_, ?_⟩
    · refine c_laws_toColouring h0 fun w325 q326 => ?_
      replace f3 := f3.keep q326
      replace f7 := f7.keep q326
      replace f320 := f320.keep q326
      replace B := B.trans (q326.mono B.size)
      replace c324 := c324.trans (q326.mono c324.size)
      have q326_s := q326.size
      refine ⟨c324, ?_⟩
      refine ⟨?_, ?_⟩
      · refine c_laws_toColouring h1 fun w328 q329 => ?_
        replace f3 := f3.keep q329
        replace f7 := f7.keep q329
        replace f320 := f320.keep q329
        replace B := B.trans (q329.mono B.size)
        replace c324 := c324.trans (q329.mono c324.size)
        have q329_s := q329.size
        refine ⟨c324, ?_⟩
        refine ⟨?_, ?_⟩
        · refine c_impl_ProductColouring h0 h1 fun w331 q332 o334 => ?_
          replace f3 := f3.keep q332
          replace f7 := f7.keep q332
          replace f320 := f320.keep q332
          replace B := B.trans (q332.mono B.size)
          replace c324 := c324.trans (q332.mono c324.size)
          have q332_s := q332.size
          refine ⟨c324, ?_⟩
          refine col_new fun b338 w335 b338_l b338_h q336 f337 => ?_
          replace f3 := f3.keep q336
          replace f7 := f7.keep q336
          replace f320 := f320.keep q336
          replace B := B.trans (q336.mono B.size)
          replace c324 := c324.trans (q336.mono c324.size)
          have q336_s := q336.size
          refine ⟨c324, ?_⟩
          refine col_put f337 o334 fun w339 m340 m340_s f341 => ?_
          replace f3 := f3.mod m340 (by simp; omega)
          replace f7 := f7.mod m340 (by simp; omega)
          replace f320 := f320.mod m340 (by simp; omega)
          replace B := B.trans (m340.below B.size (by simp; omega))
          refine col_all o334 f341 ?_
          refine col_all o317 f320 ?_
          refine c_laws_eqColouring o334 o317 fun w342 q343 => ?_
          replace f3 := f3.keep q343
          replace f7 := f7.keep q343
          replace f320 := f320.keep q343
          replace f341 := f341.keep q343
          replace B := B.trans (q343.mono B.size)
          have q343_s := q343.size
          refine ⟨fun e345 => absurd rfl (notd_t e345), fun _ => ?_⟩
          refine ⟨fun e346 => absurd rfl (ne_t e346), fun _ => ?_⟩
          exact hK _ B
        · refine col_new fun b350 w347 b350_l b350_h q348 f349 => ?_
          replace f3 := f3.keep q348
          replace f7 := f7.keep q348
          replace f320 := f320.keep q348
          replace B := B.trans (q348.mono B.size)
          replace c324 := c324.trans (q348.mono c324.size)
          have q348_s := q348.size
          refine ⟨c324, ?_⟩
          refine c_impl_ProductColouring h0 h1 fun w351 q352 o354 => ?_
          replace f3 := f3.keep q352
          replace f7 := f7.keep q352
          replace f320 := f320.keep q352
          replace f349 := below_at q352 f349 (at_lt f349)
          replace B := B.trans (q352.mono B.size)
          replace c324 := c324.trans (q352.mono c324.size)
          have q352_s := q352.size
          refine ⟨c324, ?_⟩
          refine col_put f349 o354 fun w355 m356 m356_s f357 => ?_
          replace f3 := f3.mod m356 (by simp; omega)
          replace f7 := f7.mod m356 (by simp; omega)
          replace f320 := f320.mod m356 (by simp; omega)
          replace B := B.trans (m356.below B.size (by simp; omega))
          refine col_all o354 f357 ?_
          refine col_all o317 f320 ?_
          refine c_laws_eqColouring o354 o317 fun w358 q359 => ?_
          replace f3 := f3.keep q359
          replace f7 := f7.keep q359
          replace f320 := f320.keep q359
          replace f357 := f357.keep q359
          replace B := B.trans (q359.mono B.size)
          have q359_s := q359.size
          refine ⟨fun e361 => absurd rfl (notd_t e361), fun _ => ?_⟩
          refine ⟨fun e362 => absurd rfl (ne_t e362), fun _ => ?_⟩
          exact hK _ B
      · refine col_new fun b366 w363 b366_l b366_h q364 f365 => ?_
        replace f3 := f3.keep q364
        replace f7 := f7.keep q364
        replace f320 := f320.keep q364
        replace B := B.trans (q364.mono B.size)
        replace c324 := c324.trans (q364.mono c324.size)
        have q364_s := q364.size
        refine ⟨c324, ?_⟩
        refine c_laws_toColouring h1 fun w367 q368 => ?_
        replace f3 := f3.keep q368
        replace f7 := f7.keep q368
        replace f320 := f320.keep q368
        replace f365 := below_at q368 f365 (at_lt f365)
        replace B := B.trans (q368.mono B.size)
        replace c324 := c324.trans (q368.mono c324.size)
        have q368_s := q368.size
        refine ⟨c324, ?_⟩
        refine c_impl_ProductColouring h0 h1 fun w370 q371 o373 => ?_
        replace f3 := f3.keep q371
        replace f7 := f7.keep q371
        replace f320 := f320.keep q371
        replace f365 := below_at q371 f365 (at_lt f365)
        replace B := B.trans (q371.mono B.size)
        replace c324 := c324.trans (q371.mono c324.size)
        have q371_s := q371.size
        refine ⟨c324, ?_⟩
        refine col_put f365 o373 fun w374 m375 m375_s f376 => ?_
        replace f3 := f3.mod m375 (by simp; omega)
        replace f7 := f7.mod m375 (by simp; omega)
        replace f320 := f320.mod m375 (by simp; omega)
        replace B := B.trans (m375.below B.size (by simp; omega))
        refine col_all o373 f376 ?_
        refine col_all o317 f320 ?_
        refine c_laws_eqColouring o373 o317 fun w377 q378 => ?_
        replace f3 := f3.keep q378
        replace f7 := f7.keep q378
        replace f320 := f320.keep q378
        replace f376 := f376.keep q378
        replace B := B.trans (q378.mono B.size)
        have q378_s := q378.size
        refine ⟨fun e380 => absurd rfl (notd_t e380), fun _ => ?_⟩
        refine ⟨fun e381 => absurd rfl (ne_t e381), fun _ => ?_⟩
        exact hK _ B
    · refine col_new fun b385 w382 b385_l b385_h q383 f384 => ?_
      replace f3 := f3.keep q383
      replace f7 := f7.keep q383
      replace f320 := f320.keep q383
      replace B := B.trans (q383.mono B.size)
      replace c324 := c324.trans (q383.mono c324.size)
      have q383_s := q383.size
      refine ⟨c324, ?_⟩
      refine c_laws_toColouring h0 fun w386 q387 => ?_
      replace f3 := f3.keep q387
      replace f7 := f7.keep q387
      replace f320 := f320.keep q387
      replace f384 := below_at q387 f384 (at_lt f384)
      replace B := B.trans (q387.mono B.size)
      replace c324 := c324.trans (q387.mono c324.size)
      have q387_s := q387.size
      refine ⟨c324, ?_⟩
      refine c_laws_toColouring h1 fun w389 q390 => ?_
      replace f3 := f3.keep q390
      replace f7 := f7.keep q390
      replace f320 := f320.keep q390
      replace f384 := below_at q390 f384 (at_lt f384)
      replace B := B.trans (q390.mono B.size)
      replace c324 := c324.trans (q390.mono c324.size)
      have q390_s := q390.size
      refine ⟨c324, ?_⟩
      refine c_impl_ProductColouring h0 h1 fun w392 q393 o395 => ?_
      replace f3 := f3.keep q393
      replace f7 := f7.keep q393
      replace f320 := f320.keep q393
      replace f384 := below_at q393 f384 (at_lt f384)
      replace B := B.trans (q393.mono B.size)
      replace c324 := c324.trans (q393.mono c324.size)
      have q393_s := q393.size
      refine ⟨c324, ?_⟩
      refine col_put f384 o395 fun w396 m397 m397_s f398 => ?_
      replace f3 := f3.mod m397 (by simp; omega)
      replace f7 := f7.mod m397 (by simp; omega)
      replace f320 := f320.mod m397 (by simp; omega)
      replace B := B.trans (m397.below B.size (by simp; omega))
      refine col_all o395 f398 ?_
      refine col_all o317 f320 ?_
      refine c_laws_eqColouring o395 o317 fun w399 q400 => ?_
      replace f3 := f3.keep q400
      replace f7 := f7.keep q400
      replace f320 := f320.keep q400
      replace f398 := f398.keep q400
      replace B := B.trans (q400.mono B.size)
      have q400_s := q400.size
      refine ⟨fun e402 => absurd rfl (notd_t e402), fun _ => ?_⟩
      refine ⟨fun e403 => absurd rfl (ne_t e403), fun _ => ?_⟩
      exact hK _ B

end Go.Proofs.Ytdkodhonaoecnaa
