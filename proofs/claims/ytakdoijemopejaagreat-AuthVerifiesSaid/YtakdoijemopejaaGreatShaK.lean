/- The constants of both sides are the same words, prime by prime. Its text is printed by a small program. -/
import Derived.Test.YtakdoijemopejaaGreatShaRefK
set_option maxRecDepth 100000
set_option linter.unusedSimpArgs false
set_option linter.unusedVariables false
namespace Go.Proofs.YtakdoijemopejaaGreat
namespace Sha
theorem kd2 : digN 2 3 = kOf 2 := by decide +kernel
theorem kd3 : digN 3 3 = kOf 3 := by decide +kernel
theorem kd5 : digN 5 3 = kOf 5 := by decide +kernel
theorem kd7 : digN 7 3 = kOf 7 := by decide +kernel
theorem kd11 : digN 11 3 = kOf 11 := by decide +kernel
theorem kd13 : digN 13 3 = kOf 13 := by decide +kernel
theorem kd17 : digN 17 3 = kOf 17 := by decide +kernel
theorem kd19 : digN 19 3 = kOf 19 := by decide +kernel
theorem kd23 : digN 23 3 = kOf 23 := by decide +kernel
theorem kd29 : digN 29 3 = kOf 29 := by decide +kernel
theorem kd31 : digN 31 3 = kOf 31 := by decide +kernel
theorem kd37 : digN 37 3 = kOf 37 := by decide +kernel
theorem kd41 : digN 41 3 = kOf 41 := by decide +kernel
theorem kd43 : digN 43 3 = kOf 43 := by decide +kernel
theorem kd47 : digN 47 3 = kOf 47 := by decide +kernel
theorem kd53 : digN 53 3 = kOf 53 := by decide +kernel
theorem kd59 : digN 59 3 = kOf 59 := by decide +kernel
theorem kd61 : digN 61 3 = kOf 61 := by decide +kernel
theorem kd67 : digN 67 3 = kOf 67 := by decide +kernel
theorem kd71 : digN 71 3 = kOf 71 := by decide +kernel
theorem kd73 : digN 73 3 = kOf 73 := by decide +kernel
theorem kd79 : digN 79 3 = kOf 79 := by decide +kernel
theorem kd83 : digN 83 3 = kOf 83 := by decide +kernel
theorem kd89 : digN 89 3 = kOf 89 := by decide +kernel
theorem kd97 : digN 97 3 = kOf 97 := by decide +kernel
theorem kd101 : digN 101 3 = kOf 101 := by decide +kernel
theorem kd103 : digN 103 3 = kOf 103 := by decide +kernel
theorem kd107 : digN 107 3 = kOf 107 := by decide +kernel
theorem kd109 : digN 109 3 = kOf 109 := by decide +kernel
theorem kd113 : digN 113 3 = kOf 113 := by decide +kernel
theorem kd127 : digN 127 3 = kOf 127 := by decide +kernel
theorem kd131 : digN 131 3 = kOf 131 := by decide +kernel
theorem kd137 : digN 137 3 = kOf 137 := by decide +kernel
theorem kd139 : digN 139 3 = kOf 139 := by decide +kernel
theorem kd149 : digN 149 3 = kOf 149 := by decide +kernel
theorem kd151 : digN 151 3 = kOf 151 := by decide +kernel
theorem kd157 : digN 157 3 = kOf 157 := by decide +kernel
theorem kd163 : digN 163 3 = kOf 163 := by decide +kernel
theorem kd167 : digN 167 3 = kOf 167 := by decide +kernel
theorem kd173 : digN 173 3 = kOf 173 := by decide +kernel
theorem kd179 : digN 179 3 = kOf 179 := by decide +kernel
theorem kd181 : digN 181 3 = kOf 181 := by decide +kernel
theorem kd191 : digN 191 3 = kOf 191 := by decide +kernel
theorem kd193 : digN 193 3 = kOf 193 := by decide +kernel
theorem kd197 : digN 197 3 = kOf 197 := by decide +kernel
theorem kd199 : digN 199 3 = kOf 199 := by decide +kernel
theorem kd211 : digN 211 3 = kOf 211 := by decide +kernel
theorem kd223 : digN 223 3 = kOf 223 := by decide +kernel
theorem kd227 : digN 227 3 = kOf 227 := by decide +kernel
theorem kd229 : digN 229 3 = kOf 229 := by decide +kernel
theorem kd233 : digN 233 3 = kOf 233 := by decide +kernel
theorem kd239 : digN 239 3 = kOf 239 := by decide +kernel
theorem kd241 : digN 241 3 = kOf 241 := by decide +kernel
theorem kd251 : digN 251 3 = kOf 251 := by decide +kernel
theorem kd257 : digN 257 3 = kOf 257 := by decide +kernel
theorem kd263 : digN 263 3 = kOf 263 := by decide +kernel
theorem kd269 : digN 269 3 = kOf 269 := by decide +kernel
theorem kd271 : digN 271 3 = kOf 271 := by decide +kernel
theorem kd277 : digN 277 3 = kOf 277 := by decide +kernel
theorem kd281 : digN 281 3 = kOf 281 := by decide +kernel
theorem kd283 : digN 283 3 = kOf 283 := by decide +kernel
theorem kd293 : digN 293 3 = kOf 293 := by decide +kernel
theorem kd307 : digN 307 3 = kOf 307 := by decide +kernel
theorem kd311 : digN 311 3 = kOf 311 := by decide +kernel
theorem hd2 : digN 2 2 = hOf 2 := by decide +kernel
theorem hd3 : digN 3 2 = hOf 3 := by decide +kernel
theorem hd5 : digN 5 2 = hOf 5 := by decide +kernel
theorem hd7 : digN 7 2 = hOf 7 := by decide +kernel
theorem hd11 : digN 11 2 = hOf 11 := by decide +kernel
theorem hd13 : digN 13 2 = hOf 13 := by decide +kernel
theorem hd17 : digN 17 2 = hOf 17 := by decide +kernel
theorem hd19 : digN 19 2 = hOf 19 := by decide +kernel
theorem pr64_lit : pr64 = [2, 3, 5, 7, 11, 13, 17, 19, 23, 29, 31, 37, 41, 43, 47, 53, 59, 61, 67, 71, 73, 79, 83, 89, 97, 101, 103, 107, 109, 113, 127, 131, 137, 139, 149, 151, 157, 163, 167, 173, 179, 181, 191, 193, 197, 199, 211, 223, 227, 229, 233, 239, 241, 251, 257, 263, 269, 271, 277, 281, 283, 293, 307, 311] := by decide +kernel
attribute [local irreducible] digN kOf hOf
theorem K_same : RK64 = K64 := by
 unfold RK64 K64
 rw [pr64_lit]
 simp only [List.map_cons, List.map_nil, kd2, kd3, kd5, kd7, kd11, kd13, kd17, kd19, kd23, kd29, kd31, kd37, kd41, kd43, kd47, kd53, kd59, kd61, kd67, kd71, kd73, kd79, kd83, kd89, kd97, kd101, kd103, kd107, kd109, kd113, kd127, kd131, kd137, kd139, kd149, kd151, kd157, kd163, kd167, kd173, kd179, kd181, kd191, kd193, kd197, kd199, kd211, kd223, kd227, kd229, kd233, kd239, kd241, kd251, kd257, kd263, kd269, kd271, kd277, kd281, kd283, kd293, kd307, kd311]
theorem H_same : RH8 = H8 := by
 unfold RH8 H8
 rw [pr64_lit]
 simp only [List.take_succ_cons, List.take_zero, List.map_cons, List.map_nil, hd2, hd3, hd5, hd7, hd11, hd13, hd17, hd19]
end Sha
end Go.Proofs.YtakdoijemopejaaGreat

