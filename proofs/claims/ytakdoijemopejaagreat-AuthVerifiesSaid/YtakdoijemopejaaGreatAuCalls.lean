/- Layer 38: the methods beside other pieces, in the form that the laws want. No condition but Go's own limits. -/
import Derived.Test.YtakdoijemopejaaGreatAuSp
import Derived.Test.YtakdoijemopejaaGreatAuAns
import Derived.Test.YtakdoijemopejaaGreatAuFin
set_option linter.unusedSimpArgs false
set_option linter.unusedVariables false
namespace Go.Proofs.YtakdoijemopejaaGreat
open Go Go.RowKit
namespace Au
open Se (St At Reads Cell)
open Li (v8 v8_one Rd Blk Fr)
open Bv (n8 n16 n32 n64)
variable {w0 w : World} {X : List Nat} {L M : List At} {v v' : Vs} {A B : Option Addr} {c g k E : Nat} {m : Bs}
attribute [local irreducible] Calls
def MsgM (w0 : World) (X : List Nat) (M L : List At) (g : Nat) (T : TypeId) (A : Option Addr) (c : Nat) (v' : Vs) (m : Bs) (k E : Nat) (e : Ending) (w' : World) : Prop :=
 ∃ r2 A2 c2, e = .returned (.tuple #[.slice A2 k c2, .int .i64 E]) ∧ St w0 X (.own 1 r2 A2 k c2 (m.map v8) :: (M ++ .blk g T (vcl v' A c) :: L)) w'
theorem msgR_M {T : TypeId} {r : Vs × Bs × Nat} {e : Ending} {w' : World} (h : MsgR w0 X (M ++ L) g T A c r e w') (he : r = (v', m, E)) (hk : k = m.length) : MsgM w0 X M L g T A c v' m k E e w' := by
 subst he hk
 obtain ⟨r2, A2, c2, k, rfl, rfl, hs⟩ := h
 exact ⟨r2, A2, c2, rfl, hs.perm ((List.perm_middle.symm).cons _)⟩
theorem chalM (hs : St w0 X (M ++ .blk g 69 (vcl v A c) :: L) w) (hv : v.ok) {nonce : Bs} (hn : nonce.length = 32) {seq : BitVec 32} {q : BitVec 16} (he : chalS v nonce seq q = (v', m, E)) (hk : k = m.length) :
  Calls Tryz.prog 10 #[.pointer (some ⟨g, 0, none⟩), .agg (nonce.map v8).toArray, .int .u32 (n32 seq), .int .u16 (n16 q)] w fun e w' => MsgM w0 X M L g 69 A c v' m k E e w' :=
 (chal_st (hs.perm List.perm_middle) hv nonce hn seq q).mono fun _ _ h => msgR_M h he hk
theorem checkM (hs : St w0 X (M ++ .blk g 69 (vcl v A c) :: L) w) (hv : v.ok) (hr : .rd A (v.p.sec.map v8) ∈ M ++ L) {b : Bs} (hb : Reads (M ++ L) B (b.map v8)) {n cb : Nat} (hn : n = b.length) (hle : n ≤ 1000) (he : checkS v b = (v', m, E)) (hk : k = m.length) :
  Calls Tryz.prog 15 #[.pointer (some ⟨g, 0, none⟩), .slice B n cb] w fun e w' => MsgM w0 X M L g 69 A c v' m k E e w' :=
 (check_st (hs.perm List.perm_middle) hv (Reads.rdm hr) hb hn hle).mono fun _ _ h => msgR_M h he hk
theorem ansM (hs : St w0 X (M ++ .blk g 83 (vcl v A c) :: L) w) (hv : v.ok) (hr : .rd A (v.p.sec.map v8) ∈ M ++ L) {b : Bs} (hb : Reads (M ++ L) B (b.map v8)) {n cb : Nat} (hn : n = b.length) (hle : n ≤ 1000) {both : Bool} {nonce : Bs} (hnl : nonce.length = 32) (he : ansS v b both nonce = (v', m, E)) (hk : k = m.length) :
  Calls Tryz.prog 19 #[.pointer (some ⟨g, 0, none⟩), .slice B n cb, .bool both, .agg (nonce.map v8).toArray] w fun e w' => MsgM w0 X M L g 83 A c v' m k E e w' :=
 (ans_st (hs.perm List.perm_middle) hv (Reads.rdm hr) hb hn hle both nonce hnl).mono fun _ _ h => msgR_M h he hk
theorem finM (hs : St w0 X (M ++ .blk g 83 (vcl v A c) :: L) w) (hv : v.ok) (hr : .rd A (v.p.sec.map v8) ∈ M ++ L) {b : Bs} (hb : Reads (M ++ L) B (b.map v8)) {n cb : Nat} (hn : n = b.length) (hle : n ≤ 1000) (he : finS v b = (v', E)) :
  Calls Tryz.prog 21 #[.pointer (some ⟨g, 0, none⟩), .slice B n cb] w fun e w' => e = .returned (.int .i64 E) ∧ St w0 X (M ++ .blk g 83 (vcl v' A c) :: L) w' := by
 refine (fin_st (hs.perm List.perm_middle) hv (Reads.rdm hr) hb hn hle).mono ?_
 rw [he]
 rintro e w' ⟨rfl, h⟩
 exact ⟨rfl, h.perm List.perm_middle.symm⟩
theorem verDoneM (hs : St w0 X (M ++ .blk g 69 (vcl v A c) :: L) w) (hn : v.n.length = 32) {d : Bool} (hd : v.d = d) : Calls Tryz.prog 17 #[.pointer (some ⟨g, 0, none⟩)] w fun e w' => e = .returned (.bool d) ∧ St w0 X (M ++ .blk g 69 (vcl v A c) :: L) w' := by
 subst hd
 exact (verDone_st (hs.perm List.perm_middle) hn).mono fun _ _ ⟨h1, h2⟩ => ⟨h1, h2.perm List.perm_middle.symm⟩
theorem proDoneM (hs : St w0 X (M ++ .blk g 83 (vcl v A c) :: L) w) (hn : v.n.length = 32) {d : Bool} (hd : v.d = d) : Calls Tryz.prog 22 #[.pointer (some ⟨g, 0, none⟩)] w fun e w' => e = .returned (.bool d) ∧ St w0 X (M ++ .blk g 83 (vcl v A c) :: L) w' := by
 subst hd
 exact (proDone_st (hs.perm List.perm_middle) hn).mono fun _ _ ⟨h1, h2⟩ => ⟨h1, h2.perm List.perm_middle.symm⟩
theorem valid_ok {p : Pn} (h : valid p.py = true) (ha : p.hs.size ≤ 240) (hb : p.sb.size ≤ 240) : ({ p := p } : Vs).ok := by
 unfold valid at h
 simp only [Bool.and_eq_true, decide_eq_true_eq] at h
 exact ⟨rfl, h.1.2, h.2, ha, hb⟩
end Au
end Go.Proofs.YtakdoijemopejaaGreat
