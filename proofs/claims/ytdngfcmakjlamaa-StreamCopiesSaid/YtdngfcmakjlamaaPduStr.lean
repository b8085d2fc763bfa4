/- Bytes as a string: what 'string(b)' gives, and when two such strings are equal. No condition but Go's own limits. -/
import Derived.Laws.BytesArg
import Derived.Test.YtdngfcmakjlamaaPduEq
set_option linter.unusedSimpArgs false
set_option linter.unusedVariables false
namespace Go.Proofs.Ytdngfcmakjlamaa
open Go Go.RowKit
namespace Pd
open Li (v8 v8_one Rd Blk Fr)
open Bv (n8 n16 n32 n64)
def strB (bs : List (BitVec 8)) : ByteArray := strOfNums (bs.map n8)
theorem strB_inj {a b : List (BitVec 8)} (h : strB a = strB b) : a = b := by
 have h1 : (strB a).data.toList = (strB b).data.toList := by rw [h]
 unfold strB at h1
 rw [strOfNums_data, strOfNums_data, List.map_map, List.map_map] at h1
 have hf : ∀ x y : BitVec 8, UInt8.ofNat (n8 x).toNat = UInt8.ofNat (n8 y).toNat → x = y := by
  intro x y h
  have := congrArg UInt8.toNat h
  unfold n8 at this
  simp only [Int.toNat_natCast, UInt8.toNat_ofNat'] at this
  apply BitVec.eq_of_toNat_eq
  have h1 := x.isLt
  have h2 := y.isLt
  omega
 exact List.map_inj_right (fun x y h => hf x y h) |>.1 h1
theorem run_str {P : Program} (w : World) {src dst e : TypeId} (h1 : P.underlying src = some (.slice e)) (h2 : P.underlying e = some (.int .u8)) (h3 : P.underlying dst = some .string) {A : Option Addr} {n c : Nat} {bs : List (BitVec 8)} (hn : n = bs.length) (hr : Rd w A (bs.map v8)) : (convert src dst (.slice A n c)).run P w = .ok (.string (strB bs)) w := by
 subst hn
 by_cases hb : bs = []
 ·subst hb
  cases A with
  | none => exact run_convert_bytes_nil w src e h1 h2 _ _ dst h3
  | some p =>
   obtain ⟨g, off, t⟩ := p
   rw [run_convert_bytes_string w src dst e _ _ c h1 h2 h3]
   have hl : (loadCells ⟨g, off, t⟩ 0).run P w = .ok #[] w := by
    have := run_loadCells_list (P := P) w ⟨g, off, t⟩ [] (fun j v h => by simp at h)
    simpa using this
   exact run_bytesToString w _ 0 c [] hl
 ·obtain ⟨g, off, rfl, h⟩ := Rd_cell hr 0 (v8_at bs 0 (List.length_pos_iff.2 hb))
  refine run_convert_bytes_arg w src e h1 h2 g off bs.length c (bs.map n8) (by simp) (fun i hi => ?_) dst h3
  obtain ⟨g', off', he, h⟩ := Rd_cell hr i (v8_at bs i hi)
  cases he
  rw [h]
  simp [hi]
end Pd
namespace Se
open Pd Li
end Se
end Go.Proofs.Ytdngfcmakjlamaa

