/- Layer 35: what the laws share: conversions, Encode's result named. No condition. -/
import Derived.Test.YtdngfcmakjlamaaPduStr
import Derived.Test.YtdngfcmakjlamaaPduInj
set_option linter.unusedSimpArgs false
set_option linter.unusedVariables false
namespace Go.Proofs.Ytdngfcmakjlamaa
open Go Go.RowKit
namespace Pd
open Se (St At Reads Cell)
open Li (v8 v8_one Rd Blk Fr)
open Bv (n8 n16 n32 n64)
variable {w0 w : World} {X : List Nat} {L : List At}
attribute [local irreducible] Calls
theorem xconv {P : Program} {w : World} {o : Oper} {ρ : Operand → Value} {src dst e : TypeId} {x : Operand} (ho : o.op = .convert src dst x) {A : Option Addr} {n c : Nat} (hx : ρ x = .slice A n c) {bs : List (BitVec 8)} (hr : Rd w A (bs.map v8)) (hn : n = bs.length) (h1 : P.underlying src = some (.slice e)) (h2 : P.underlying e = some (.int .u8)) (h3 : P.underlying dst = some .string) : (execOp ρ o).run P w = .ok (.value (.string (strB bs))) w := by
 unfold execOp
 simp only [ho, hx, Sem.run_bind, run_str w h1 h2 h3 hn hr, Result.andThen_ok, Sem.run_pure]
theorem own_le {s : Nat} {r : Option Nat} {A : Option Addr} {n c : Nat} {xs : List Value} (hs : St w0 X L w) (hm : At.own s r A n c xs ∈ L) : n ≤ c := by
 have h : Se.Ow w s r A n c xs := hs.hold _ hm
 exact h.2.1
/-- A call of Encode, its length bounded. -/
theorem encodeN_st (hs : St w0 X L w) (p : PDU) (f : Fm) {EA DA : Option Addr} {en ec dn dc : Nat} (hE : Reads L EA (p.en.map v8)) (hD : Reads L DA (p.da.map v8)) (he : en = p.en.length) (hd : dn = p.da.length) (le : en ≤ 70368744177664) (ld : dn ≤ 70368744177664) {bs : List (BitVec 8)} {e : Nat} (hr : encE p f = (bs, e)) {m : Nat} (hm : m = bs.length) :
  Calls Try.prog 36 #[.agg (pc p.h EA en ec DA dn dc).toArray, fv f] w fun e' w' => ∃ r B c, e' = .returned (.tuple #[.slice B m c, iv e]) ∧ m ≤ c ∧ St w0 X (.own 1 r B m c (bs.map v8) :: L) w' :=
 (encode_st hs p f hE hD he hd le ld hr hm).mono (by
  rintro e' w' ⟨r, B, c, h1, h2⟩
  exact ⟨r, B, c, h1, own_le h2 List.mem_cons_self, h2⟩)
end Pd
end Go.Proofs.Ytdngfcmakjlamaa

