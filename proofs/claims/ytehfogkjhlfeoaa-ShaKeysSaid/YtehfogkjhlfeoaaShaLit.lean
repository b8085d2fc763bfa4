/- The constants as numbers. No condition. -/
import Derived.Test.YtehfogkjhlfeoaaShaSum
import Derived.Test.YtehfogkjhlfeoaaShaK
namespace Go.Proofs.Ytehfogkjhlfeoaa
namespace Sha
theorem kl2 : kOf 2 = 1116352408#32 := by decide +kernel
theorem kl3 : kOf 3 = 1899447441#32 := by decide +kernel
theorem kl5 : kOf 5 = 3049323471#32 := by decide +kernel
theorem kl7 : kOf 7 = 3921009573#32 := by decide +kernel
theorem kl11 : kOf 11 = 961987163#32 := by decide +kernel
theorem kl13 : kOf 13 = 1508970993#32 := by decide +kernel
theorem kl17 : kOf 17 = 2453635748#32 := by decide +kernel
theorem kl19 : kOf 19 = 2870763221#32 := by decide +kernel
theorem kl23 : kOf 23 = 3624381080#32 := by decide +kernel
theorem kl29 : kOf 29 = 310598401#32 := by decide +kernel
theorem kl31 : kOf 31 = 607225278#32 := by decide +kernel
theorem kl37 : kOf 37 = 1426881987#32 := by decide +kernel
theorem kl41 : kOf 41 = 1925078388#32 := by decide +kernel
theorem kl43 : kOf 43 = 2162078206#32 := by decide +kernel
theorem kl47 : kOf 47 = 2614888103#32 := by decide +kernel
theorem kl53 : kOf 53 = 3248222580#32 := by decide +kernel
theorem kl59 : kOf 59 = 3835390401#32 := by decide +kernel
theorem kl61 : kOf 61 = 4022224774#32 := by decide +kernel
theorem kl67 : kOf 67 = 264347078#32 := by decide +kernel
theorem kl71 : kOf 71 = 604807628#32 := by decide +kernel
theorem kl73 : kOf 73 = 770255983#32 := by decide +kernel
theorem kl79 : kOf 79 = 1249150122#32 := by decide +kernel
theorem kl83 : kOf 83 = 1555081692#32 := by decide +kernel
theorem kl89 : kOf 89 = 1996064986#32 := by decide +kernel
theorem kl97 : kOf 97 = 2554220882#32 := by decide +kernel
theorem kl101 : kOf 101 = 2821834349#32 := by decide +kernel
theorem kl103 : kOf 103 = 2952996808#32 := by decide +kernel
theorem kl107 : kOf 107 = 3210313671#32 := by decide +kernel
theorem kl109 : kOf 109 = 3336571891#32 := by decide +kernel
theorem kl113 : kOf 113 = 3584528711#32 := by decide +kernel
theorem kl127 : kOf 127 = 113926993#32 := by decide +kernel
theorem kl131 : kOf 131 = 338241895#32 := by decide +kernel
theorem kl137 : kOf 137 = 666307205#32 := by decide +kernel
theorem kl139 : kOf 139 = 773529912#32 := by decide +kernel
theorem kl149 : kOf 149 = 1294757372#32 := by decide +kernel
theorem kl151 : kOf 151 = 1396182291#32 := by decide +kernel
theorem kl157 : kOf 157 = 1695183700#32 := by decide +kernel
theorem kl163 : kOf 163 = 1986661051#32 := by decide +kernel
theorem kl167 : kOf 167 = 2177026350#32 := by decide +kernel
theorem kl173 : kOf 173 = 2456956037#32 := by decide +kernel
theorem kl179 : kOf 179 = 2730485921#32 := by decide +kernel
theorem kl181 : kOf 181 = 2820302411#32 := by decide +kernel
theorem kl191 : kOf 191 = 3259730800#32 := by decide +kernel
theorem kl193 : kOf 193 = 3345764771#32 := by decide +kernel
theorem kl197 : kOf 197 = 3516065817#32 := by decide +kernel
theorem kl199 : kOf 199 = 3600352804#32 := by decide +kernel
theorem kl211 : kOf 211 = 4094571909#32 := by decide +kernel
theorem kl223 : kOf 223 = 275423344#32 := by decide +kernel
theorem kl227 : kOf 227 = 430227734#32 := by decide +kernel
theorem kl229 : kOf 229 = 506948616#32 := by decide +kernel
theorem kl233 : kOf 233 = 659060556#32 := by decide +kernel
theorem kl239 : kOf 239 = 883997877#32 := by decide +kernel
theorem kl241 : kOf 241 = 958139571#32 := by decide +kernel
theorem kl251 : kOf 251 = 1322822218#32 := by decide +kernel
theorem kl257 : kOf 257 = 1537002063#32 := by decide +kernel
theorem kl263 : kOf 263 = 1747873779#32 := by decide +kernel
theorem kl269 : kOf 269 = 1955562222#32 := by decide +kernel
theorem kl271 : kOf 271 = 2024104815#32 := by decide +kernel
theorem kl277 : kOf 277 = 2227730452#32 := by decide +kernel
theorem kl281 : kOf 281 = 2361852424#32 := by decide +kernel
theorem kl283 : kOf 283 = 2428436474#32 := by decide +kernel
theorem kl293 : kOf 293 = 2756734187#32 := by decide +kernel
theorem kl307 : kOf 307 = 3204031479#32 := by decide +kernel
theorem kl311 : kOf 311 = 3329325298#32 := by decide +kernel
theorem hl2 : hOf 2 = 1779033703#32 := by decide +kernel
theorem hl3 : hOf 3 = 3144134277#32 := by decide +kernel
theorem hl5 : hOf 5 = 1013904242#32 := by decide +kernel
theorem hl7 : hOf 7 = 2773480762#32 := by decide +kernel
theorem hl11 : hOf 11 = 1359893119#32 := by decide +kernel
theorem hl13 : hOf 13 = 2600822924#32 := by decide +kernel
theorem hl17 : hOf 17 = 528734635#32 := by decide +kernel
theorem hl19 : hOf 19 = 1541459225#32 := by decide +kernel
def KL : List (BitVec 32) := [1116352408#32, 1899447441#32, 3049323471#32, 3921009573#32, 961987163#32, 1508970993#32, 2453635748#32, 2870763221#32, 3624381080#32, 310598401#32, 607225278#32, 1426881987#32, 1925078388#32, 2162078206#32, 2614888103#32, 3248222580#32, 3835390401#32, 4022224774#32, 264347078#32, 604807628#32, 770255983#32, 1249150122#32, 1555081692#32, 1996064986#32, 2554220882#32, 2821834349#32, 2952996808#32, 3210313671#32, 3336571891#32, 3584528711#32, 113926993#32, 338241895#32, 666307205#32, 773529912#32, 1294757372#32, 1396182291#32, 1695183700#32, 1986661051#32, 2177026350#32, 2456956037#32, 2730485921#32, 2820302411#32, 3259730800#32, 3345764771#32, 3516065817#32, 3600352804#32, 4094571909#32, 275423344#32, 430227734#32, 506948616#32, 659060556#32, 883997877#32, 958139571#32, 1322822218#32, 1537002063#32, 1747873779#32, 1955562222#32, 2024104815#32, 2227730452#32, 2361852424#32, 2428436474#32, 2756734187#32, 3204031479#32, 3329325298#32]
def HL : List (BitVec 32) := [1779033703#32, 3144134277#32, 1013904242#32, 2773480762#32, 1359893119#32, 2600822924#32, 528734635#32, 1541459225#32]
theorem K64_lit : K64 = KL := by unfold K64 KL; rw [pr64_lit]; simp only [List.map_cons, List.map_nil, kl2, kl3, kl5, kl7, kl11, kl13, kl17, kl19, kl23, kl29, kl31, kl37, kl41, kl43, kl47, kl53, kl59, kl61, kl67, kl71, kl73, kl79, kl83, kl89, kl97, kl101, kl103, kl107, kl109, kl113, kl127, kl131, kl137, kl139, kl149, kl151, kl157, kl163, kl167, kl173, kl179, kl181, kl191, kl193, kl197, kl199, kl211, kl223, kl227, kl229, kl233, kl239, kl241, kl251, kl257, kl263, kl269, kl271, kl277, kl281, kl283, kl293, kl307, kl311]
theorem H8_lit : H8 = HL := by unfold H8 HL; rw [pr64_lit]; simp only [List.take_succ_cons, List.take_zero, List.map_cons, List.map_nil, hl2, hl3, hl5, hl7, hl11, hl13, hl17, hl19]
end Sha
end Go.Proofs.Ytehfogkjhlfeoaa
