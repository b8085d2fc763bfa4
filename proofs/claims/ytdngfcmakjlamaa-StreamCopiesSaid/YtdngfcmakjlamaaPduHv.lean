/- Regions that draw their order and only make memory: slices of one's own as what outlives. No condition. -/
import Derived.Test.YtdngfcmakjlamaaPduStart
import Derived.Test.YtdngfcmakjlamaaPduVal
import Derived.Test.YtdngfcmakjlamaaPduCrcW
set_option linter.unusedSimpArgs false
set_option linter.unusedVariables false
namespace Go.Proofs.Ytdngfcmakjlamaa
open Go Go.RowKit
namespace Pd
open Se (St At Reads Cell)
open Li (v8 v8_one Rd Blk Fr)
open Bv (n8 n16 n32 n64)
variable {W0 w wx w' : World} {L : List At}
theorem own_new (k : St w [] L w') : ∀ b ∈ Se.ownedL L, w.heap.size ≤ b := fun b hb => by
 rcases Nat.lt_or_ge b w.heap.size with h | h
 ·exact absurd (k.may b hb h) (by simp)
 ·exact h
theorem lat (h : Hv.Ext W0 w) (k : St w [] L w') : St W0 [] L w' := Se.St.later h k (own_new k)
/-- It gives a slice of its own, made new. -/
def Nown (W0 : World) (n : Nat) (xs : List Value) : Hv.Noisy := ⟨fun v => ∃ A c, v = .slice A n c, fun v w => ∀ A c, v = .slice A n c → ∃ r, St W0 [] [.own 1 r A n c xs] w⟩
theorem Nown_ex (W0 : World) (n : Nat) (xs : List Value) : ∃ v, (Nown W0 n xs).vv v := ⟨_, none, 0, rfl⟩
theorem Nown_st {n : Nat} {xs : List Value} {v : Value} (h : Hv.Ext w w') (k : (Nown W0 n xs).ww v w) : (Nown W0 n xs).ww v w' := fun A c e => let ⟨r, s⟩ := k A c e; ⟨r, s.ext h⟩
theorem Nown_new (h : Hv.Ext W0 wx) {r : Option Nat} {A : Option Addr} {n c : Nat} {xs : List Value} (k : St wx [] [.own 1 r A n c xs] w') : Hv.Ext wx w' ∧ (Nown W0 n xs).vv (.slice A n c) ∧ (Nown W0 n xs).ww (.slice A n c) w' :=
 ⟨k.below, ⟨A, c, rfl⟩, fun A' c' e => by cases e; exact ⟨r, lat h k⟩⟩
theorem Nown_rd {A : Option Addr} {n c : Nat} {xs : List Value} (k : (Nown W0 n xs).ww (.slice A n c) w) : Rd w A xs := by
 obtain ⟨r, s⟩ := k A c rfl
 exact Se.Ow.rd (s.hold _ List.mem_cons_self)
theorem row_rd {l : List Value} {t : TypeId} {b n c : Nat} (k : (Hv.row l t).ww (.slice (some ⟨b, 0, none⟩) n c) w) : Rd w (some ⟨b, 0, none⟩) l := Li.Rd.of_blk (t := t) (k b n c rfl)
/-- It gives a slice of k parts that join to bs. -/
def Nparts (k : Nat) (bs : List (BitVec 8)) : Hv.Noisy := ⟨fun v => ∃ b, v = .slice (some ⟨b, 0, none⟩) k k, fun v w => ∀ b, v = .slice (some ⟨b, 0, none⟩) k k → ∃ l : List Pt, l.length = k ∧ Rd w (some ⟨b, 0, none⟩) (l.map Pt.v) ∧ (∀ p ∈ l, Rd w p.A (p.bs.map v8)) ∧ flat l = bs⟩
theorem Nparts_ex (k : Nat) (bs : List (BitVec 8)) : ∃ v, (Nparts k bs).vv v := ⟨_, 0, rfl⟩
theorem Nparts_st {k : Nat} {bs : List (BitVec 8)} {v : Value} (h : Hv.Ext w w') (q : (Nparts k bs).ww v w) : (Nparts k bs).ww v w' := fun b e =>
 let ⟨l, h1, h2, h3, h4⟩ := q b e; ⟨l, h1, h2.grow h, fun p hp => (h3 p hp).grow h, h4⟩
theorem Nparts_bs (wx : World) (l : List Pt) {o : Oper} {a : Act} {n : Nat} {ls : List (Nat × Operand)} (ho : o.op = .buildSlice 106 n ls.toArray) (hv : ls.map (fun p => (p.1, a.eval p.2)) = (l.map Pt.v).zipIdx.map fun p => (p.2, p.1)) (hn : n = l.length) (h0 : n ≠ 0) (hb : n ≤ 16777216) (hr : ∀ p ∈ l, Rd wx p.A (p.bs.map v8)) {bs : List (BitVec 8)} (hbs : flat l = bs) :
  Hv.Gives Try.prog o a wx fun v w' => Hv.Ext wx w' ∧ (Nparts n bs).vv v ∧ (Nparts n bs).ww v w' := by
 have hs : St wx [] [] wx := St.start wx (by simp) rfl
 refine Se.bsv hs ho Try.underlying106 bysi rfl (l.map Pt.v) hv (by simpa using hn) h0 hb (by intro v hv; obtain ⟨p, _, rfl⟩ := List.mem_map.1 hv; rfl) ?_
 intro w' g _ h
 refine ⟨h.below, ⟨g, rfl⟩, fun b e => ?_⟩
 cases e
 exact ⟨l, hn.symm, Li.Rd.of_blk (h.hold _ List.mem_cons_self), fun p hp => (hr p hp).grow h.below, hbs⟩
theorem start_rd (w : World) (l : List Pt) {S : Option Addr} (h1 : Rd w S (l.map Pt.v)) (h2 : ∀ p ∈ l, Rd w p.A (p.bs.map v8)) : St w [] (.rd S (l.map Pt.v) :: l.map fun p => At.rd p.A (p.bs.map v8)) w := by
 refine St.start w ?_ ?_
 ·intro a ha
  rcases List.mem_cons.1 ha with rfl | ha
  ·exact h1
  ·obtain ⟨p, hp, rfl⟩ := List.mem_map.1 ha
   exact h2 p hp
 ·simp only [Se.ownedL, List.flatMap_cons, List.flatMap_map, Se.At.owned]
  simp
theorem one_of {a : At} (h : St w [] (a :: L) w') : St w [] [a] w' := h.sub (List.Sublist.cons_cons _ (List.nil_sublist _))
theorem number_any (w : World) (v : BitVec 32) (n : Nat) (hn : n ≤ 4) : Calls Try.prog 56 #[.int .u32 (n32 v), .int .i64 n] w fun e w' => ∃ r B c, e = .returned (.slice B n c) ∧ St w [] [.own 1 r B n c ((numL v n).map v8)] w' :=
 number_st (St.start w (by simp) rfl) v n hn
theorem fields_any (w : World) (m : Nat) (l : List Pt) {S : Option Addr} {k cap : Nat} (hk : k = l.length) (hS : Rd w S (l.map Pt.v)) (hp : ∀ p ∈ l, Rd w p.A (p.bs.map v8)) {bs : List (BitVec 8)} (hb : flat l = bs) (hle : bs.length ≤ m) (hm : m ≤ 70368744177664) (hkl : k ≤ 1000) :
  Calls Try.prog 58 #[.int .i64 m, .slice S k cap] w fun e w' => ∃ r B c', e = .returned (.slice B m c') ∧ St w [] [.own 1 r B m c' ((bs ++ zs (m - bs.length)).map v8)] w' := by
 subst hb
 refine (fields_st (start_rd w l hS hp) m l hk (Reads.rd 0 rfl) (fun p hp => Reads.rdm (List.mem_cons_of_mem _ (List.mem_map.2 ⟨p, hp, rfl⟩))) hle hm hkl).mono ?_
 rintro e w' ⟨r, B, c, h1, h2⟩
 exact ⟨r, B, c, h1, one_of h2⟩
theorem fields_np (w : World) (m : Nat) {b k : Nat} {bs : List (BitVec 8)} (h : (Nparts k bs).ww (.slice (some ⟨b, 0, none⟩) k k) w) (hle : bs.length ≤ m) (hm : m ≤ 70368744177664) (hkl : k ≤ 1000) {ys : List (BitVec 8)} (hy : bs ++ zs (m - bs.length) = ys) :
  Calls Try.prog 58 #[.int .i64 m, .slice (some ⟨b, 0, none⟩) k k] w fun e w' => ∃ r B c', e = .returned (.slice B m c') ∧ St w [] [.own 1 r B m c' (ys.map v8)] w' := by
 subst hy
 obtain ⟨l, h1, h2, h3, h4⟩ := h b rfl
 exact fields_any w m l h1.symm h2 h3 h4 hle hm hkl
theorem concat_np (w : World) {b k : Nat} {bs : List (BitVec 8)} (h : (Nparts k bs).ww (.slice (some ⟨b, 0, none⟩) k k) w) {q : Nat} (hq : q = bs.length) (hm : q ≤ 70368744177664) (hkl : k ≤ 1000) :
  Calls Try.prog 54 #[.slice (some ⟨b, 0, none⟩) k k] w fun e w' => ∃ r B c', e = .returned (.slice B q c') ∧ St w [] [.own 1 r B q c' (bs.map v8)] w' := by
 obtain ⟨l, h1, h2, h3, h4⟩ := h b rfl
 refine (concat_st' (start_rd w l h2 h3) l h1.symm (Reads.rd 0 rfl) (fun p hp => Reads.rdm (List.mem_cons_of_mem _ (List.mem_map.2 ⟨p, hp, rfl⟩))) h4 hq hm hkl).mono ?_
 rintro e w' ⟨r, B, c, h1, h2⟩
 exact ⟨r, B, c, h1, one_of h2⟩
end Pd
end Go.Proofs.Ytdngfcmakjlamaa

