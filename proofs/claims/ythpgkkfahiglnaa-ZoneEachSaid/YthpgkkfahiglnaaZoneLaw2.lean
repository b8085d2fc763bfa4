/- Layer 28's laws: over. No condition but Go's own limits. -/
import Derived.Test.YthpgkkfahiglnaaZoneLaw1
import Derived.Test.YthpgkkfahiglnaaZoneR5
import Derived.RangeFuncBound
set_option maxRecDepth 100000
set_option maxHeartbeats 8000000
set_option linter.unusedSimpArgs false
set_option linter.unusedVariables false
namespace Go.Proofs.Ythpgkkfahiglnaa
open Go Go.RowKit
namespace Zo
open Se (St At Reads Cell)
open Li (Rd Blk Fr)
variable {w0 w : World} {X : List Nat} {L : List At} {P : Option Addr}
attribute [local irreducible] Calls
theorem nf_eql (g : Fn) (x y : Array Value) (w : World) : (binOp .eql 61 (.func g x y) .nilFunc).run Try.prog w = .ok (.bool false) w := by rfl
theorem EachOk.perm {L L' : List At} {v : Value} {A : Option Addr} {n c : Nat} {z : Zs} {xs : List Nat} (h : EachOk w0 X L L v A n c z xs) (p : L.Perm L') : EachOk w0 X L' L' v A n c z xs := by
 intro w hs
 refine (h w (hs.perm p.symm)).mono ?_
 rintro e w ⟨lb, M, h1, h2, h3⟩
 exact ⟨lb, M, h1, h2, h3.perm (List.Perm.append_left M p)⟩
theorem min_eq (a b : Int) (h : a ≤ b) : (a == if a < b then a else b) = true := by
 split <;> simp; omega
theorem zBo : (Try.prog.info? 4).bind (fun i => i.zero.map (·.cells.toList)) = some [.bool false] := by kernel_rfl
theorem over_gen {v : Value} {z : Zs} {A SA : Option Addr} {ZI : List Value} {sl : List Int} {n c : Nat} (hs : St w0 X L w) (hm : At.rd A (ocs z.l) ∈ L) (hk : z.l.length ≤ 4096) (ho : z.l ≠ [] → OkZ z) (hz : RZ z A ZI) (hn : n = sl.length) (hr : Reads L SA (ints sl)) (hle : n ≤ 1048576)
  (hE : ∀ M, EachOk w0 X (M ++ L) (M ++ L) v SA n c z (numsT (inS sl) z.l z.l.length)) (many : Int) :
  Calls Try.prog 25 #[v, .agg ZI.toArray, .int .i64 many, .slice SA n c] w fun e w' => e = .returned (.bool true) ∧ St w0 X L w' := by
 have HM := Lib.hid hm
 have HE := Lib.hid hE
 have HO := Lib.hid ho
 have HZ := Lib.hid hz
 have HL := Lib.hid hz.len
 have HZO := Lib.hid hz.one
 obtain ⟨k, hkk⟩ : ∃ k, k = z.l.length := ⟨_, rfl⟩
 have HK := Lib.hid hkk
 have Z5 : ∃ cc, ZI[5]? = some (.slice A k cc) := by obtain ⟨cc, hcc⟩ := hz; exact ⟨cc, by rw [hcc, hkk]; rfl⟩
 obtain ⟨cc, Z5⟩ := Z5
 have Z5 := Lib.hid Z5
 rw [← hkk] at hk
 have hx0 := nf_eql
 have CI := Lib.hid (fun (M : List At) (w : World) (x : Zn) (hs : St w0 X (M ++ L) w) => in_st hs hn (hr.app M) hle x (c := c))
 obtain ⟨NL, hNL⟩ : ∃ N, N = numsT (inS sl) z.l k := ⟨_, rfl⟩
 have HNL := Lib.hid (show NL = numsT (inS sl) z.l k from hNL)
 have HNN := Lib.hid (show NL.length ≤ k by rw [hNL]; exact numsT_le _ _ _)
 have HNT : Hid (∀ j, (h : j < NL.length) → NL[j] < k) := Lib.hid (fun j h => by subst hNL; exact numsT_lt h)
 rw [← hkk, ← hNL] at hE
 have HE := Lib.hid hE
 clear hm hE ho hz hkk hn hr hNL
 refine Se.enterM Try.func25 rfl ?_
 simp only [Try.ntmps25, List.size_toArray, List.length_cons, List.length_nil, Nat.reduceAdd, Nat.reduceSub, Array.replicate_succ, Array.replicate_zero, List.push_toArray, List.append_toArray, List.nil_append, List.cons_append]
 go_wp2_with (first | ((with_reducible refine Se.isL (o := ⟨some 8, _, _, _, _, _⟩) ?_); (refine Se.toL rfl (Se.al (o := ⟨some 8, _, _, _, _, _⟩) hs rfl (zBo) ?_); clear hs; rintro w g8 - hs)) | ((with_reducible refine Se.isL (o := ⟨some 10, _, _, _, _, _⟩) ?_); (refine Se.toL rfl (Se.al (o := ⟨some 10, _, _, _, _, _⟩) hs rfl (zIs) ?_); clear hs; rintro w g10 - hs)) | ((first | with_reducible refine Se.ab hs ?_ | with_reducible refine Se.abc hs ?_); clear hs; (first | ((fail_if_success (have _q := g5)); generalize w.heap.size = g5; intro w hs) | (generalize w.heap.size = g6; intro w hs))) | (go_at_call 23; refine Calls.mono (HE.out [_, _, _] w hs) ?_; clear hs; rintro e w ⟨lb, M, rfl, HSeq, hs⟩))
 replace hs : St w0 X (.blk g10 106 [.slice none 0 0] :: .blk g8 4 [.bool false] :: .blk g6 3 [.int .i64 many] :: .blk g5 43 ZI :: (M ++ L)) w := hs.perm (List.Perm.cons _ (List.perm_append_comm_assoc M [_, _, _] L))
 replace hs := hs.nil_own 1 none
 clear HE
 go_loopg [11] k (fun gh s11 wr => ∃ (j : Nat) (r : Option Nat) (B : Option Addr) (m c' : Nat), gh = k - j ∧ j ≤ k ∧ s11 = .int .i64 (j : Int) ∧ Hid (m = (numsT (inS sl) z.l j).length) ∧ St w0 X (.own 1 r B m c' (ivs (numsT (inS sl) z.l j)) :: .blk g10 106 [.slice B m c'] :: .blk g8 4 [.bool false] :: .blk g6 3 [.int .i64 many] :: .blk g5 43 ZI :: (M ++ L)) wr)
 case atStart => exact ⟨0, none, none, 0, 0, rfl, Nat.zero_le _, rfl, Lib.hid rfl, hs⟩
 case round =>
  clear hs
  rename World => w
  obtain ⟨j, r, B, m, c', rfl, hj, rfl, HMJ, hs⟩ := hrel
  have hmj : m ≤ j := by rw [HMJ.out]; exact numsT_le _ _ _
  by_cases hlt : j < k
  ·have hlt' : (j : Int) < (k : Int) := by omega
   have hjl : j < z.l.length := by rw [← HK.out]; exact hlt
   obtain ⟨x, hx⟩ : ∃ x, x = z.l.getD j dz := ⟨_, rfl⟩
   obtain ⟨st, hst⟩ : ∃ p, p = x.st := ⟨_, rfl⟩
   obtain ⟨ga, oa, rfl, _, _⟩ := ((Reads.rdm HM.out : Reads L A (ocs z.l)) w (fun a ha => hs.hold a (by simp [ha]))).cells (ocs_ne (by omega))
   have C0 := Lib.hid (show Cell L ga (oa + j * 3) (iv st) from rcell (Reads.rdm HM.out) hjl 0 (by decide) (by rw [hst, hx]; rfl))
   obtain ⟨b, hb⟩ : ∃ b, b = inS sl x := ⟨_, rfl⟩
   have CI2 : Hid (∀ (M : List At) (w : World), St w0 X (M ++ L) w → Calls Try.prog 26 #[iv st, .slice SA n c] w fun e w' => e = .returned (.bool b) ∧ St w0 X (M ++ L) w') := Lib.hid (fun M w hs => by rw [hst, hb]; exact CI.out M w x hs)
   have HB := Lib.hid (show inS sl (z.l.getD j dz) = b by rw [hb, hx])
   obtain ⟨NS, hNS⟩ : ∃ N, N = ivs (numsT (inS sl) z.l j) := ⟨_, rfl⟩
   rw [← hNS] at hs
   have HNS := Lib.hid hNS
   clear hx hst hb hNS hjl
   cases b with
   | true =>
    have HE := Lib.hid (numsT_t HB.out)
    go_wp2_with (first | ((with_reducible refine Se.isL (o := ⟨some 22, _, _, _, _, _⟩) ?_); (refine Se.toL rfl (Se.ld (o := ⟨some 22, _, _, _, _, _⟩) hs rfl rfl (Cell.blk 4 rfl Z5.out) (by kernel_rfl) ?_))) | ((with_reducible refine Se.isL (o := ⟨some 28, _, _, _, _, _⟩) ?_); (refine Se.toL rfl (Se.ld (o := ⟨some 28, _, _, _, _, _⟩) hs rfl rfl (Cell.blk 4 rfl Z5.out) (by kernel_rfl) ?_))) | ((with_reducible refine Se.isL (o := ⟨some 32, _, _, _, _, _⟩) ?_); (refine Se.toL rfl (Se.ld (o := ⟨some 32, _, _, _, _, _⟩) hs rfl rfl ((capp [_, _, _, _, _] (capp M C0.out))) (by kernel_rfl) ?_))) | ((with_reducible refine Se.isL (o := ⟨some 35, _, _, _, _, _⟩) ?_); (refine Se.toL rfl (Se.ld (o := ⟨some 35, _, _, _, _, _⟩) hs rfl rfl (Cell.blk 1 rfl rfl) (by kernel_rfl) ?_))) | ((with_reducible refine Se.isL (o := ⟨some 37, _, _, _, _, _⟩) ?_); (refine Se.toL rfl (Se.bsv (o := ⟨some 37, _, _, _, _, _⟩) hs rfl Try.underlying106 inti rfl ([.int .i64 (j : Int)]) (by rfl) (by rfl) (by decide) (by decide) (by simp [Value.oneCell']) ?_); clear hs; rintro w g37 - hs)) | ((with_reducible refine Se.isL (o := ⟨some 38, _, _, _, _, _⟩) ?_); (refine Se.toL rfl (Se.ap (o := ⟨some 38, _, _, _, _, _⟩) 1 hs rfl rfl rfl rfl ((Reads.blk 0 rfl)) Try.underlying106 int_i3 (rfl) (by decide) ((by simp [Value.oneCell'])) (rfl) ((by omega)) ((by omega)) ?_); clear hs; rintro w r' B' c2 hs; try simp only [List.cons_append, List.nil_append, List.set_cons_zero, List.set_cons_succ] at hs; try simp only [Nat.zero_add, List.nil_append] at hs; try simp only [Nat.zero_add])) | ((with_reducible refine Se.isL (o := ⟨none, _, _, _, _, _⟩) ?_); ((first | refine Se.toL rfl (Se.so 2 (v := .int _ _) hs rfl rfl rfl rfl rfl (by kernel_rfl) (by simp) ?_) | refine Se.toL rfl (Se.so 2 (v := .bool _) hs rfl rfl rfl rfl rfl (by kernel_rfl) (by simp) ?_) | refine Se.toL rfl (Se.so 2 (v := .slice _ _ _) hs rfl rfl rfl rfl rfl (by kernel_rfl) (by simp) ?_) | refine Se.toL rfl (Se.so 2 (v := .pointer _) hs rfl rfl rfl rfl rfl (by kernel_rfl) (by simp) ?_) | refine Se.toL rfl (Se.so 2 (v := .string _) hs rfl rfl rfl rfl rfl (by kernel_rfl) (by simp) ?_) | refine Se.toL rfl (Se.so 2 (v := .map _) hs rfl rfl rfl rfl rfl (by kernel_rfl) (by simp) ?_) | refine Se.toL rfl (Se.so 2 (v := .func _ _ _) hs rfl rfl rfl rfl rfl (by kernel_rfl) (by simp) ?_) | refine Se.toL rfl (Se.so 2 (v := .nilFunc) hs rfl rfl rfl rfl rfl (by kernel_rfl) (by simp) ?_)); clear hs; intro w hs; try simp only [List.cons_append, List.nil_append, List.set_cons_zero, List.set_cons_succ] at hs)) | (go_at_call 26; refine Calls.mono (CI2.out (_ :: _ :: _ :: _ :: _ :: M) _ hs) ?_; clear hs; rintro e w ⟨rfl, hs⟩))
    go_roundg (k - (j + 1))
    case measure => omega
    case rel =>
     refine ⟨j + 1, r', B', m + 1, c2, rfl, by omega, by go_num, Lib.hid (by rw [HE.out, List.length_append, HMJ.out]; rfl), ?_⟩
     have h2 := hs.drop
     rw [HNS.out] at h2
     rw [HE.out]
     unfold ivs at h2 ⊢
     rw [List.map_append]
     exact h2
   | false =>
    have HE := Lib.hid (numsT_f HB.out)
    go_wp2_with (first | ((with_reducible refine Se.isL (o := ⟨some 22, _, _, _, _, _⟩) ?_); (refine Se.toL rfl (Se.ld (o := ⟨some 22, _, _, _, _, _⟩) hs rfl rfl (Cell.blk 4 rfl Z5.out) (by kernel_rfl) ?_))) | ((with_reducible refine Se.isL (o := ⟨some 28, _, _, _, _, _⟩) ?_); (refine Se.toL rfl (Se.ld (o := ⟨some 28, _, _, _, _, _⟩) hs rfl rfl (Cell.blk 4 rfl Z5.out) (by kernel_rfl) ?_))) | ((with_reducible refine Se.isL (o := ⟨some 32, _, _, _, _, _⟩) ?_); (refine Se.toL rfl (Se.ld (o := ⟨some 32, _, _, _, _, _⟩) hs rfl rfl ((capp [_, _, _, _, _] (capp M C0.out))) (by kernel_rfl) ?_))) | (go_at_call 26; refine Calls.mono (CI2.out (_ :: _ :: _ :: _ :: _ :: M) _ hs) ?_; clear hs; rintro e w ⟨rfl, hs⟩))
    go_roundg (k - (j + 1))
    case measure => omega
    case rel =>
     refine ⟨j + 1, r, B, m, c', rfl, by omega, by go_num, Lib.hid (by rw [HE.out]; exact HMJ.out), ?_⟩
     rw [HE.out, ← HNS.out]
     exact hs
  ·obtain rfl : j = k := by omega
   rw [← HNL.out] at hs
   have HM2 := HMJ.out
   rw [← HNL.out] at HM2
   have HMN := Lib.hid HM2
   clear HMJ HM2 CI
   obtain ⟨rN, hrN⟩ : ∃ x, x = r := ⟨_, rfl⟩
   obtain ⟨NB, hNB⟩ : ∃ x, x = B := ⟨_, rfl⟩
   obtain ⟨nc, hnc⟩ : ∃ x, x = c' := ⟨_, rfl⟩
   rw [← hrN, ← hNB, ← hnc] at hs
   clear hrN hNB hnc
   have hmk : m ≤ 4096 := by omega
   go_wp2_with (first | ((with_reducible refine Se.isL (o := ⟨some 22, _, _, _, _, _⟩) ?_); (refine Se.toL rfl (Se.ld (o := ⟨some 22, _, _, _, _, _⟩) hs rfl rfl (Cell.blk 4 rfl Z5.out) (by kernel_rfl) ?_))) | ((with_reducible refine Se.isL (o := ⟨some 12, _, _, _, _, _⟩) ?_); (refine Se.toL rfl (Se.al (o := ⟨some 12, _, _, _, _, _⟩) hs rfl (zIn) ?_); clear hs; rintro w g12 - hs)) | ((with_reducible refine Se.isL (o := ⟨none, Op.store 3 _ _, _, _, _, _⟩) ?_); ((first | refine Se.toL rfl (Se.so 0 (v := .int _ _) hs rfl rfl rfl rfl rfl (by kernel_rfl) (by simp) ?_) | refine Se.toL rfl (Se.so 0 (v := .bool _) hs rfl rfl rfl rfl rfl (by kernel_rfl) (by simp) ?_) | refine Se.toL rfl (Se.so 0 (v := .slice _ _ _) hs rfl rfl rfl rfl rfl (by kernel_rfl) (by simp) ?_) | refine Se.toL rfl (Se.so 0 (v := .pointer _) hs rfl rfl rfl rfl rfl (by kernel_rfl) (by simp) ?_) | refine Se.toL rfl (Se.so 0 (v := .string _) hs rfl rfl rfl rfl rfl (by kernel_rfl) (by simp) ?_) | refine Se.toL rfl (Se.so 0 (v := .map _) hs rfl rfl rfl rfl rfl (by kernel_rfl) (by simp) ?_) | refine Se.toL rfl (Se.so 0 (v := .func _ _ _) hs rfl rfl rfl rfl rfl (by kernel_rfl) (by simp) ?_) | refine Se.toL rfl (Se.so 0 (v := .nilFunc) hs rfl rfl rfl rfl rfl (by kernel_rfl) (by simp) ?_)); clear hs; intro w hs; try simp only [List.cons_append, List.nil_append, List.set_cons_zero] at hs)))
   have hs := (hs.dup (A := A) (xs := ocs z.l) (by simp only [List.mem_cons, List.mem_append, HM.out, or_true])).perm (L' := [.rd A (ocs z.l), .own 1 rN NB m nc (ivs NL), .blk g12 3 [.int .i64 (((0 : Nat) : Int))], .blk g10 106 [.slice NB m nc], .blk g8 4 [.bool false], .blk g6 3 [.int .i64 many], .blk g5 43 ZI] ++ (M ++ L)) (by
    refine List.Perm.cons _ ?_
    exact List.Perm.swap _ _ _)
   refine Se.rangeSt (lb := lb) hs rfl (Go.Proofs.enters_of Try.func58 (by kernel_rfl) rfl) HSeq (fun _ => rfl)
    (fun q Lb => (q = 0 ∨ (q : Int) < many) ∧ Lb = [.rd A (ocs z.l), .own 1 rN NB m nc (ivs NL), .blk g12 3 [.int .i64 (q : Int)], .blk g10 106 [.slice NB m nc], .blk g8 4 [.bool false], .blk g6 3 [.int .i64 many], .blk g5 43 ZI])
    (fun cd q Lb => cd = .exit 2 ∧ many ≤ (q : Int) + 1 ∧ (q = 0 ∨ (q : Int) < many) ∧ Lb = [.rd A (ocs z.l), .own 1 rN NB m nc (ivs NL), .blk g12 3 [.int .i64 ((q : Int) + 1)], .blk g10 106 [.slice NB m nc], .blk g8 4 [.bool false], .blk g6 3 [.int .i64 many], .blk g5 43 ZI])
    ⟨.inl rfl, rfl⟩ ?_ ?_ ?_
   ·rintro l q x Lb w T hx ⟨hq, rfl⟩ hs
    obtain ⟨hqn, hxe⟩ := List.getElem?_eq_some_iff.1 hx
    have hqm : q < m := by rw [HMN.out]; exact hqn
    have hxk : x < j := by rw [← hxe]; exact HNT.out q hqn
    have hxl : x < z.l.length := by rw [← HK.out]; exact hxk
    have hne : z.l ≠ [] := by intro h; rw [h] at hxl; simp at hxl
    have HCX := Lib.hid (show (ivs NL)[q]? = some (iv x) by unfold ivs; rw [List.getElem?_map, hx]; rfl)
    obtain ⟨Z, hZ⟩ : ∃ Z, Z = zcV z x := ⟨_, rfl⟩
    have ZLn := Lib.hid (show Z.length = 4 by rw [hZ]; rfl)
    have ZOn := Lib.hid (show ∀ v ∈ Z, v.oneCell' = true by rw [hZ]; simp [zcV, Value.oneCell'])
    have CRZ : Hid (∀ (M' : List At) (w : World), St w0 X M' w → At.rd A (ocs z.l) ∈ M' → Calls Try.prog 20 #[.agg ZI.toArray, .int .i64 (x : Int)] w fun e w' => e = .returned (.agg Z.toArray) ∧ St w0 X M' w') := Lib.hid (fun M' w hs hm => by rw [hZ]; exact rzone_st hs hm (HO.out hne) HZ.out hxl)
    have hnz : ∀ w, (binOp .neq 37 (.agg Z.toArray) (.agg Z.toArray)).run Try.prog w = .ok (.bool false) w := fun w => by rw [hZ]; exact neZ _ _ _ _ w
    rw [show encZ z x = #[.int .i64 (x : Int), .agg Z.toArray] by rw [hZ]; rfl]
    simp only [List.cons_append, List.nil_append] at hs
    rw [Se.zip2]
    simp only [List.setIfInBounds_toArray, List.set_cons_zero, List.set_cons_succ]
    clear hx hxe hqn hxl hne hZ hxk
    repeat (first | refine wpIn_block ?_ | refine wpIn_seq ?_)
    refine Se.regI (by repeat (first | exact Se.roundSt_out | exact Se.falsePost_out | refine Se.then_out ?_ | refine Se.block_out ?_)) (by rfl) ?_
    go_wp2_with fail
    (try simp only [Exit.then])
    repeat (first | refine wpIn_block ?_ | refine wpIn_seq ?_)
    refine Se.regI (by repeat (first | exact Se.roundSt_out | exact Se.falsePost_out | refine Se.then_out ?_ | refine Se.block_out ?_)) (by rfl) ?_
    go_wp2_with (first | ((with_reducible refine Se.isL (o := ⟨some 14, _, _, _, _, _⟩) ?_); (refine Se.toL rfl (Se.al (o := ⟨some 14, _, _, _, _, _⟩) hs rfl (zZo) ?_); clear hs; rintro w g14 - hs)) | ((with_reducible refine Se.isL (o := ⟨none, Op.store 37 _ _, _, _, _, _⟩) ?_); (refine Se.toL rfl (Se.sow 0 hs rfl rfl rfl rfl (ZOn.out) ((by rw [ZLn.out]; kernel_rfl)) ((by rw [ZLn.out]; rfl)) ?_); clear hs; intro w hs; try simp only [List.cons_append, List.nil_append, List.set_cons_zero] at hs)))
    (try simp only [Exit.then])
    refine ⟨.blk g14 37 Z :: [.rd A (ocs z.l), .own 1 rN NB m nc (ivs NL), .blk g12 3 [.int .i64 (q : Int)], .blk g10 106 [.slice NB m nc], .blk g8 4 [.bool false], .blk g6 3 [.int .i64 many], .blk g5 43 ZI], hs, ?_⟩
    clear hs
    clear w T
    intro w T hs
    simp only [List.cons_append, List.nil_append] at hs
    obtain ⟨gn, on, rfl, rfl⟩ := hs.own_at 2 rfl (by omega)
    have hq' : (q : Int) < (m : Int) := by omega
    have hqd : decide ((m : Int) ≤ (q : Int)) = false := by simpa using hq'
    have hqd2 : decide (m ≤ q) = false := by simpa using hqm
    have SA' := Lib.hid (show ∀ w', St w0 X (.blk g14 37 Z :: .rd A (ocs z.l) :: .own 1 (some gn) (some ⟨gn, on, none⟩) m nc (ivs NL) :: .blk g12 3 [.int .i64 (q : Int)] :: .blk g10 106 [.slice (some ⟨gn, on, none⟩) m nc] :: .blk g8 4 [.bool false] :: .blk g6 3 [.int .i64 many] :: .blk g5 43 ZI :: T) w' → (Blk w' g14 Z 37 ∧ Blk w' g5 ZI 43) ∧ (Blk w' g12 [.int .i64 (q : Int)] 3 ∧ Blk w' g10 [.slice (some ⟨gn, on, none⟩) m nc] 106) ∧ w'.cell? ⟨gn, on + q, none⟩ = some (iv x) from fun _ h => ⟨⟨h.hold (.blk g14 _ Z) (by simp), h.hold (.blk g5 _ ZI) (by simp)⟩, ⟨h.hold (.blk g12 _ _) (by simp), h.hold (.blk g10 _ _) (by simp)⟩, ((Reads.own 2 rfl).cell q HCX.out) _ h.hold⟩)
    repeat (first | refine wpIn_block ?_ | refine wpIn_seq ?_)
    refine Se.chI 19 (fun wx => (Blk wx g14 Z 37 ∧ Blk wx g5 ZI 43) ∧ (Blk wx g12 [.int .i64 (q : Int)] 3 ∧ Blk wx g10 [.slice (some ⟨gn, on, none⟩) m nc] 106) ∧ wx.cell? ⟨gn, on + q, none⟩ = some (iv x)) (fun | 16 => true | _ => false) (by repeat (first | exact Se.roundSt_out | exact Se.falsePost_out | refine Se.then_out ?_ | refine Se.block_out ?_)) (by rfl) (by kernel_rfl) (by decide +kernel) (SA'.out _ hs.drew) ?_
    replace hs := hs.drew
    generalize w.drew = w at hs ⊢
    change Ch.CW _ _ _ _ _ [0, 1, 2, 3, 4, 5, 6, 7, 8, 9, 10, 11, 12, 13, 14, 15, 16, 17, 18] _ _
    iterate 16 ((first | (refine Ch.pure (v := ?_) (by rfl) (by rfl) (by rfl) (fun wx hS => ?_) ?_; rotate_left; (focus (go_simp; (first | done | with_reducible rfl)))) | refine Ch.pure (v := _) (by rfl) (by rfl) (by rfl) (fun wx hS => Se.xl rfl rfl (by rw [(hS.2.1.1).cell]; rfl) (by decide +kernel)) ?_ | refine Ch.pure (v := _) (by rfl) (by rfl) (by rfl) (fun wx hS => Se.xl rfl rfl (by rw [(hS.2.1.2).cell]; rfl) (by decide +kernel)) ?_ | refine Ch.pure (v := _) (by rfl) (by rfl) (by rfl) (fun wx hS => Se.xl rfl rfl hS.2.2 (by decide +kernel)) ?_ | refine Ch.pure (v := _) (by rfl) (by rfl) (by rfl) (fun wx hS => Se.xla rfl rfl (Li.Rd.of_blk hS.1.1) (by rw [ZLn.out] <;> kernel_rfl) (by kernel_rfl)) ?_ | refine Ch.pure (v := _) (by rfl) (by rfl) (by rfl) (fun wx hS => Se.xla rfl rfl (Li.Rd.of_blk hS.1.2) (by rw [HL.out] <;> kernel_rfl) (by kernel_rfl)) ?_); (try simp only [Act.put, List.setIfInBounds_toArray, List.set_cons_zero, List.set_cons_succ]))
    refine Ch.noise (by rfl) (by rfl) (by rfl) ?_
    refine Se.gcall (f := 20) (args := #[.agg ZI.toArray, .int .i64 (x : Int)]) ?_ ?_
    ·go_simp
    refine Calls.mono (CRZ.out _ _ hs (by simp)) ?_
    clear hs
    rintro e w ⟨rfl, hs⟩
    refine ⟨_, rfl, SA'.out _ hs, ?_⟩
    (try simp only [Act.put, List.setIfInBounds_toArray, List.set_cons_zero, List.set_cons_succ])
    iterate 2 ((first | (refine Ch.pure (v := ?_) (by rfl) (by rfl) (by rfl) (fun wx hS => ?_) ?_; rotate_left; (focus (go_simp; (first | done | with_reducible rfl))))); (try simp only [Act.put, List.setIfInBounds_toArray, List.set_cons_zero, List.set_cons_succ]))
    refine Ch.done ?_
    try simp only [List.drop_succ_cons, List.drop_zero]
    change Code.wpIn (Se.WF (some l)) 0 Try.prog _ _ _ _
    refine wpIn_cond_false rfl (wpIn_skip ?_)
    have hs := hs.drop
    have hw := IntWalk.i64_in ((q : Int) + 1) (by omega)
    have hmm : many ≤ (q : Int) + 1 ∨ (decide (many ≤ (q : Int) + 1) = false ∧ (q : Int) + 1 < many) := by
     simp only [decide_eq_false_iff_not]; omega
    rcases hmm with hmk | ⟨hmd, hml⟩
    all_goals
     change Code.wpIn (Se.WF (some l)) 0 Try.prog _ _ _ _
     repeat (first | refine wpIn_block ?_ | refine wpIn_seq ?_)
     refine Se.regI (by repeat (first | exact Se.roundSt_out | exact Se.falsePost_out | refine Se.then_out ?_ | refine Se.block_out ?_)) (by rfl) ?_
     go_wp2_with (first | ((with_reducible refine Se.isL (o := ⟨some 61, _, _, _, _, _⟩) ?_); (refine Se.toL rfl (Se.ld (o := ⟨some 61, _, _, _, _, _⟩) hs rfl rfl (Cell.blk 2 rfl rfl) (by kernel_rfl) ?_))) | ((with_reducible refine Se.isL (o := ⟨none, Op.store 3 _ _, _, _, _, _⟩) ?_); ((first | refine Se.toL rfl (Se.so 2 (v := .int _ _) hs rfl rfl rfl rfl rfl (by kernel_rfl) (by simp) ?_) | refine Se.toL rfl (Se.so 2 (v := .bool _) hs rfl rfl rfl rfl rfl (by kernel_rfl) (by simp) ?_) | refine Se.toL rfl (Se.so 2 (v := .slice _ _ _) hs rfl rfl rfl rfl rfl (by kernel_rfl) (by simp) ?_) | refine Se.toL rfl (Se.so 2 (v := .pointer _) hs rfl rfl rfl rfl rfl (by kernel_rfl) (by simp) ?_) | refine Se.toL rfl (Se.so 2 (v := .string _) hs rfl rfl rfl rfl rfl (by kernel_rfl) (by simp) ?_) | refine Se.toL rfl (Se.so 2 (v := .map _) hs rfl rfl rfl rfl rfl (by kernel_rfl) (by simp) ?_) | refine Se.toL rfl (Se.so 2 (v := .func _ _ _) hs rfl rfl rfl rfl rfl (by kernel_rfl) (by simp) ?_) | refine Se.toL rfl (Se.so 2 (v := .nilFunc) hs rfl rfl rfl rfl rfl (by kernel_rfl) (by simp) ?_)); clear hs; intro w hs; try simp only [List.cons_append, List.nil_append, List.set_cons_zero, List.set_cons_succ] at hs)))
     (try simp only [Exit.then])
     repeat (first | refine wpIn_block ?_ | refine wpIn_seq ?_)
     refine Se.regI (by repeat (first | exact Se.roundSt_out | exact Se.falsePost_out | refine Se.then_out ?_ | refine Se.block_out ?_)) (by rfl) ?_
     go_wp2_with (first | ((with_reducible refine Se.isL (o := ⟨some 63, _, _, _, _, _⟩) ?_); (refine Se.toL rfl (Se.ld (o := ⟨some 63, _, _, _, _, _⟩) hs rfl rfl (Cell.blk 2 rfl rfl) (by kernel_rfl) ?_))) | ((with_reducible refine Se.isL (o := ⟨some 64, _, _, _, _, _⟩) ?_); (refine Se.toL rfl (Se.ld (o := ⟨some 64, _, _, _, _, _⟩) hs rfl rfl (Cell.blk 5 rfl rfl) (by kernel_rfl) ?_))))
     (try simp only [Exit.then])
    ·refine wpIn_cond_true rfl (wpIn_exit ?_)
     exact ⟨_, ⟨rfl, hmk, hq, rfl⟩, hs⟩
    ·refine wpIn_cond_false rfl (wpIn_skip ?_)
     have e : ((q + 1 : Nat) : Int) = (q : Int) + 1 := by omega
     exact ⟨_, ⟨.inr (by omega), rfl⟩, by rw [e]; exact hs⟩
   ·rintro Dd Lb w ⟨hq, rfl⟩ hs
    rw [← HMN.out] at hs hq
    simp only [Exit.inBlock, Exit.then]
    go_at_K
    simp only [List.cons_append, List.nil_append] at hs
    go_wp2_with (first | ((with_reducible refine Se.isL (o := ⟨some 66, _, _, _, _, _⟩) ?_); (refine Se.toL rfl (Se.ld (o := ⟨some 66, _, _, _, _, _⟩) hs rfl rfl (Cell.blk 2 rfl rfl) (by kernel_rfl) ?_))) | ((with_reducible refine Se.isL (o := ⟨some 67, _, _, _, _, _⟩) ?_); (refine Se.toL rfl (Se.ld (o := ⟨some 67, _, _, _, _, _⟩) hs rfl rfl (Cell.blk 3 rfl rfl) (by kernel_rfl) ?_))) | ((with_reducible refine Se.isL (o := ⟨some 69, _, _, _, _, _⟩) ?_); (refine Se.toL rfl (Se.ld (o := ⟨some 69, _, _, _, _, _⟩) hs rfl rfl (Cell.blk 5 rfl rfl) (by kernel_rfl) ?_))) | ((with_reducible refine Se.isL (o := ⟨none, Op.store 4 _ _, _, _, _, _⟩) ?_); ((first | refine Se.toL rfl (Se.so 4 (v := .int _ _) hs rfl rfl rfl rfl rfl (by kernel_rfl) (by simp) ?_) | refine Se.toL rfl (Se.so 4 (v := .bool _) hs rfl rfl rfl rfl rfl (by kernel_rfl) (by simp) ?_) | refine Se.toL rfl (Se.so 4 (v := .slice _ _ _) hs rfl rfl rfl rfl rfl (by kernel_rfl) (by simp) ?_) | refine Se.toL rfl (Se.so 4 (v := .pointer _) hs rfl rfl rfl rfl rfl (by kernel_rfl) (by simp) ?_) | refine Se.toL rfl (Se.so 4 (v := .string _) hs rfl rfl rfl rfl rfl (by kernel_rfl) (by simp) ?_) | refine Se.toL rfl (Se.so 4 (v := .map _) hs rfl rfl rfl rfl rfl (by kernel_rfl) (by simp) ?_) | refine Se.toL rfl (Se.so 4 (v := .func _ _ _) hs rfl rfl rfl rfl rfl (by kernel_rfl) (by simp) ?_) | refine Se.toL rfl (Se.so 4 (v := .nilFunc) hs rfl rfl rfl rfl rfl (by kernel_rfl) (by simp) ?_)); clear hs; intro w hs; try simp only [List.cons_append, List.nil_append, List.set_cons_zero, List.set_cons_succ] at hs)))
    all_goals
     refine Se.leave1 (Se.St.mid (Lb := [_, _, _, _, _, _, _]) hs) ?_
     clear hs
     intro w hs
     refine Se.leave0 (Se.results_cell1 hs rfl rfl (Cell.blk 4 rfl rfl) (by kernel_rfl)) ⟨rfl, ?_⟩
     exact (hs.drop.drop.drop.drop.drop.drop.drop).sub (List.sublist_append_right _ _)
   ·rintro Dd cd q Lb w hqn ⟨rfl, hm1, hq, rfl⟩ hs
    rw [← HMN.out] at hqn
    have hk1 : (q : Int) + 1 ≤ m := by omega
    simp only [List.cons_append, List.nil_append] at hs
    have hkc : (q = 0 ∧ many ≤ 1) ∨ (1 ≤ q ∧ many = (q : Int) + 1) := by omega
    clear hm1 hq hqn
    rcases hkc with ⟨rfl, hm⟩ | ⟨hq, rfl⟩
    ·go_wp2_with (first | ((with_reducible refine Se.isL (o := ⟨some 66, _, _, _, _, _⟩) ?_); (refine Se.toL rfl (Se.ld (o := ⟨some 66, _, _, _, _, _⟩) hs rfl rfl (Cell.blk 2 rfl rfl) (by kernel_rfl) ?_))) | ((with_reducible refine Se.isL (o := ⟨some 67, _, _, _, _, _⟩) ?_); (refine Se.toL rfl (Se.ld (o := ⟨some 67, _, _, _, _, _⟩) hs rfl rfl (Cell.blk 3 rfl rfl) (by kernel_rfl) ?_))) | ((with_reducible refine Se.isL (o := ⟨some 69, _, _, _, _, _⟩) ?_); (refine Se.toL rfl (Se.ld (o := ⟨some 69, _, _, _, _, _⟩) hs rfl rfl (Cell.blk 5 rfl rfl) (by kernel_rfl) ?_))) | ((with_reducible refine Se.isL (o := ⟨none, Op.store 4 _ _, _, _, _, _⟩) ?_); ((first | refine Se.toL rfl (Se.so 4 (v := .int _ _) hs rfl rfl rfl rfl rfl (by kernel_rfl) (by simp) ?_) | refine Se.toL rfl (Se.so 4 (v := .bool _) hs rfl rfl rfl rfl rfl (by kernel_rfl) (by simp) ?_) | refine Se.toL rfl (Se.so 4 (v := .slice _ _ _) hs rfl rfl rfl rfl rfl (by kernel_rfl) (by simp) ?_) | refine Se.toL rfl (Se.so 4 (v := .pointer _) hs rfl rfl rfl rfl rfl (by kernel_rfl) (by simp) ?_) | refine Se.toL rfl (Se.so 4 (v := .string _) hs rfl rfl rfl rfl rfl (by kernel_rfl) (by simp) ?_) | refine Se.toL rfl (Se.so 4 (v := .map _) hs rfl rfl rfl rfl rfl (by kernel_rfl) (by simp) ?_) | refine Se.toL rfl (Se.so 4 (v := .func _ _ _) hs rfl rfl rfl rfl rfl (by kernel_rfl) (by simp) ?_) | refine Se.toL rfl (Se.so 4 (v := .nilFunc) hs rfl rfl rfl rfl rfl (by kernel_rfl) (by simp) ?_)); clear hs; intro w hs; try simp only [List.cons_append, List.nil_append, List.set_cons_zero, List.set_cons_succ] at hs)))
     all_goals
      (try rw [min_eq 1 m (by omega)] at hs)
      refine Se.leave1 (Se.St.mid (Lb := [_, _, _, _, _, _, _]) hs) ?_
      clear hs
      intro w hs
      refine Se.leave0 (Se.results_cell1 hs rfl rfl (Cell.blk 4 rfl rfl) (by kernel_rfl)) ⟨rfl, ?_⟩
      exact (hs.drop.drop.drop.drop.drop.drop.drop).sub (List.sublist_append_right _ _)
    ·have hk2 : 1 < (q : Int) + 1 := by omega
     go_wp2_with (first | ((with_reducible refine Se.isL (o := ⟨some 66, _, _, _, _, _⟩) ?_); (refine Se.toL rfl (Se.ld (o := ⟨some 66, _, _, _, _, _⟩) hs rfl rfl (Cell.blk 2 rfl rfl) (by kernel_rfl) ?_))) | ((with_reducible refine Se.isL (o := ⟨some 67, _, _, _, _, _⟩) ?_); (refine Se.toL rfl (Se.ld (o := ⟨some 67, _, _, _, _, _⟩) hs rfl rfl (Cell.blk 3 rfl rfl) (by kernel_rfl) ?_))) | ((with_reducible refine Se.isL (o := ⟨some 69, _, _, _, _, _⟩) ?_); (refine Se.toL rfl (Se.ld (o := ⟨some 69, _, _, _, _, _⟩) hs rfl rfl (Cell.blk 5 rfl rfl) (by kernel_rfl) ?_))) | ((with_reducible refine Se.isL (o := ⟨none, Op.store 4 _ _, _, _, _, _⟩) ?_); ((first | refine Se.toL rfl (Se.so 4 (v := .int _ _) hs rfl rfl rfl rfl rfl (by kernel_rfl) (by simp) ?_) | refine Se.toL rfl (Se.so 4 (v := .bool _) hs rfl rfl rfl rfl rfl (by kernel_rfl) (by simp) ?_) | refine Se.toL rfl (Se.so 4 (v := .slice _ _ _) hs rfl rfl rfl rfl rfl (by kernel_rfl) (by simp) ?_) | refine Se.toL rfl (Se.so 4 (v := .pointer _) hs rfl rfl rfl rfl rfl (by kernel_rfl) (by simp) ?_) | refine Se.toL rfl (Se.so 4 (v := .string _) hs rfl rfl rfl rfl rfl (by kernel_rfl) (by simp) ?_) | refine Se.toL rfl (Se.so 4 (v := .map _) hs rfl rfl rfl rfl rfl (by kernel_rfl) (by simp) ?_) | refine Se.toL rfl (Se.so 4 (v := .func _ _ _) hs rfl rfl rfl rfl rfl (by kernel_rfl) (by simp) ?_) | refine Se.toL rfl (Se.so 4 (v := .nilFunc) hs rfl rfl rfl rfl rfl (by kernel_rfl) (by simp) ?_)); clear hs; intro w hs; try simp only [List.cons_append, List.nil_append, List.set_cons_zero, List.set_cons_succ] at hs)))
     all_goals
      (try rw [min_eq ((q : Int) + 1) m hk1] at hs)
      refine Se.leave1 (Se.St.mid (Lb := [_, _, _, _, _, _, _]) hs) ?_
      clear hs
      intro w hs
      refine Se.leave0 (Se.results_cell1 hs rfl rfl (Cell.blk 4 rfl rfl) (by kernel_rfl)) ⟨rfl, ?_⟩
      exact (hs.drop.drop.drop.drop.drop.drop.drop).sub (List.sublist_append_right _ _)
end Zo
end Go.Proofs.Ythpgkkfahiglnaa

