/- CRC-32C of parts, by the program; and by the reference. No condition but Go's own limits. -/
import Derived.Test.YtgpbmohfgjmpkaaPduCrcW
set_option linter.unusedSimpArgs false
set_option linter.unusedVariables false
namespace Go.Proofs.Ytgpbmohfgjmpkaa
open Go Go.RowKit
namespace Pd
open Se (St At Reads Cell)
open Li (v8 v8_one Rd rowOf)
open Bv (n8 n16 n32 n64)
variable {w0 w : World} {X : List Nat} {L : List At}
attribute [local irreducible] Calls
theorem crcU_append (s : BitVec 32) (a b : List (BitVec 8)) : crcU s (a ++ b) = crcU (crcU s a) b := by unfold crcU; rw [List.foldl_append]
theorem crcU_snoc (s : BitVec 32) (bs : List (BitVec 8)) (i : Nat) (h : i < bs.length) : crcU s (bs.take (i + 1)) = crcB (crcU s (bs.take i)) bs[i] := by
  rw [List.take_succ_eq_append_getElem h, crcU_append]; rfl
section
attribute [local go_sem ↓] Bv.xor_n32 Bv.xor_n8 Bv.shr_n32
attribute [local go_sem] Bv.of_n32 Bv.of_n8 Bv.wrap_n8_of Bv.of8_n32
set_option maxRecDepth 100000 in
set_option maxHeartbeats 4000000 in
theorem table2_any (s : BitVec 32) (b : BitVec 8) (g : Nat) (w : World) (hc : ∀ i, i < 256 → w.cell? ⟨g, i, none⟩ = some (v32 (crcN 8 (BitVec.ofNat 32 i)))) : Calls Try.prog 84 #[v32 s, .int .u8 (n8 b), .pointer (some ⟨g, 0, none⟩)] w fun e w' => e = .returned (v32 (crcB s b)) ∧ w' = w := by
  have ST := Lib.hid (crcB_table s b)
  obtain ⟨y, hy⟩ : ∃ y, y = s.setWidth 8 ^^^ b := ⟨_, rfl⟩
  have h1 : 0 ≤ n8 y := Bv.n8_lo y
  have h2 : n8 y < 256 := Bv.n8_hi y
  have e1 : BitVec.ofNat 32 y.toNat = y.setWidth 32 := by
    apply BitVec.eq_of_toNat_eq; simp
  have hcy := hc y.toNat y.isLt
  rw [e1] at hcy
  have e2 : (n8 y).toNat = y.toNat := by unfold n8; simp
  rw [← e2] at hcy
  rw [hy] at h1 h2 hcy
  clear hc e1 e2 hy
  go_enter Try.func84, Try.ntmps84
  go_wp2
  go_ret
  exact ⟨by rw [← ST.out]; rfl, rfl⟩
end
set_option maxRecDepth 100000 in
set_option maxHeartbeats 4000000 in
theorem updated_st (hs : St w0 X L w) (s : BitVec 32) (l : List Pt) {S : Option Addr} {k cap : Nat} (hk : k = l.length) (hS : Reads L S (l.map Pt.v)) (hp : ∀ p ∈ l, Reads L p.A (p.bs.map v8)) (hle : ∀ p ∈ l, p.bs.length ≤ 70368744177664) (hkl : k ≤ 1000) {T : Nat} (hT : Reads L (some ⟨T, 0, none⟩) (crcT 256)) {s' : BitVec 32} (hs' : crcU s (flat l) = s') :
    Calls Try.prog 83 #[v32 s, .slice S k cap, .func (.func 84) #[] #[.pointer (some ⟨T, 0, none⟩)]] w fun e w' => e = .returned (v32 s') ∧ St w0 X L w' := by
  have HK := Lib.hid hk
  have HS := Lib.hid hS
  have HP := Lib.hid hp
  have HL := Lib.hid hle
  have HT := Lib.hid (show ∀ w, St w0 X L w → ∀ i, i < 256 → w.cell? ⟨T, i, none⟩ = some (v32 (crcN 8 (BitVec.ofNat 32 i))) by
    intro w hw i hi
    refine hT.cell0 i ?_ w hw.hold
    simp [crcT, hi])
  obtain ⟨F, hF⟩ : ∃ F : Nat → BitVec 32, F = fun i => crcU s (flat (l.take i)) := ⟨_, rfl⟩
  have F0 := Lib.hid (show F 0 = s by rw [hF]; rfl)
  have FK := Lib.hid (show F k = s' by rw [hF, hk]; simp [hs'])
  have FS := Lib.hid (show ∀ i (h : i < l.length), F (i + 1) = crcU (F i) l[i].bs by intro i h; rw [hF]; simp only [flat_snoc l i h, crcU_append])
  clear hk hS hp hF hle hT hs'
  go_enter Try.func83, Try.ntmps83
  go_wp2_with fail
  go_loopg [0, 13] k (fun gh s0 s13 wr => ∃ (i : Nat), gh = k - i ∧ i ≤ k ∧ s13 = .int .i64 i ∧ s0 = v32 (F i) ∧ St w0 X L wr)
  case atStart => exact ⟨0, rfl, by omega, rfl, by rw [F0.out], hs⟩
  case round =>
    clear hs
    rename World => w
    obtain ⟨i, rfl, hi, rfl, rfl, hs⟩ := hrel
    by_cases hlt : i < k
    · have hlt' : (i : Int) < (k : Int) := by omega
      have hil : i < l.length := by have := HK.out; omega
      obtain ⟨p, hpe⟩ : ∃ p, p = l[i] := ⟨_, rfl⟩
      have hb : (l.map Pt.v)[i]? = some (.slice p.A p.bs.length p.c) := by rw [hpe]; simp [hil]; rfl
      have hpl : p ∈ l := by rw [hpe]; exact List.getElem_mem hil
      have FS1 := FS.out i hil
      rw [← hpe] at FS1
      have hpA := HP.out p hpl
      have hpL := HL.out p hpl
      obtain ⟨A, c, bs⟩ := p
      obtain ⟨f, hf⟩ : ∃ f, f = F i := ⟨_, rfl⟩
      rw [← hf] at FS1 ⊢
      obtain ⟨n, hn⟩ : ∃ n, n = bs.length := ⟨_, rfl⟩
      rw [← hn] at hb hpL
      obtain ⟨g, off, rfl, hcS⟩ := Rd_cell (HS.out w hs.hold) i hb
      have HN := Lib.hid hn
      have HA := Lib.hid hpA
      have FS1 := Lib.hid FS1
      clear hb hpe hil hpl hpA hf hn
      go_wp2_with fail
      go_loopg [0, 19] n (fun gh s0 s19 wr => ∃ (j : Nat), gh = n - j ∧ j ≤ n ∧ s19 = .int .i64 j ∧ s0 = v32 (crcU f (bs.take j)) ∧ St w0 X L wr)
      case atStart => exact ⟨0, rfl, by omega, rfl, rfl, hs⟩
      case round =>
        clear hs hcS
        rename World => w
        obtain ⟨j, rfl, hj, rfl, rfl, hs⟩ := hrel
        by_cases hlj : j < n
        · have hlj' : (j : Int) < (n : Int) := by omega
          have hjl : j < bs.length := by have := HN.out; omega
          obtain ⟨x, hx⟩ : ∃ x, x = bs.getD j 0#8 := ⟨_, rfl⟩
          have hcb := v8_at bs j hjl
          rw [← hx] at hcb
          obtain ⟨ga, oa, rfl, hca⟩ := Rd_cell (HA.out w hs.hold) j hcb
          have ST := Lib.hid (crcU_snoc f bs j hjl)
          have ex : bs[j] = x := by rw [hx]; simp [hjl]
          rw [ex] at ST
          have C := Lib.hid (table2_any (crcU f (bs.take j)) x T w (HT.out w hs))
          obtain ⟨y, hy⟩ : ∃ y, y = crcU f (bs.take j) := ⟨_, rfl⟩
          rw [← hy] at ST C ⊢
          clear hx hcb ex hy hjl
          go_wp2_with (first | (go_at_call 84; refine Calls.mono (C.out) ?_; rintro e w' ⟨rfl, rfl⟩))
          go_roundg (n - (j + 1))
          case measure => omega
          case rel => exact ⟨j + 1, rfl, by omega, by go_num, by rw [ST.out], hs⟩
        · obtain rfl : j = n := by omega
          have e : crcU f (bs.take j) = F (i + 1) := by rw [FS1.out, HN.out, List.take_length]
          rw [e]
          go_wp2_with fail
          go_roundg (k - (i + 1))
          case measure => omega
          case rel => exact ⟨i + 1, rfl, by omega, by go_num, rfl, hs⟩
    · obtain rfl : i = k := by omega
      rw [FK.out]
      go_wp2_with fail
      go_ret
      exact ⟨rfl, hs⟩
theorem zeroT0 : ∃ Z, (Try.prog.info? 97).bind (fun i => i.zero.map (·.cells.toList)) = some Z ∧ Z.length = 256 := ⟨_, zeroT, by simp [Li.rowOf_length, crcT]⟩
set_option maxRecDepth 100000 in
set_option maxHeartbeats 4000000 in
theorem update32_st (hs : St w0 X L w) (s : BitVec 32) (l : List Pt) {S : Option Addr} {k cap : Nat} (hk : k = l.length) (hS : Reads L S (l.map Pt.v)) (hp : ∀ p ∈ l, Reads L p.A (p.bs.map v8)) (hle : ∀ p ∈ l, p.bs.length ≤ 70368744177664) (hkl : k ≤ 1000) {s' : BitVec 32} (hs' : crcU s (flat l) = s') :
    Calls Try.prog 77 #[v32 s, .slice S k cap] w fun e w' => e = .returned (v32 s') ∧ St w0 X L w' := by
  have HK := Lib.hid hk
  have HS := Lib.hid hS
  have HP := Lib.hid hp
  have HL := Lib.hid hle
  have HE := Lib.hid hs'
  obtain ⟨T, hT⟩ : ∃ T, T = crcT 256 := ⟨_, rfl⟩
  have TT := Lib.hid hT
  have TO := Lib.hid (show ∀ v ∈ T, v.oneCell' = true by rw [hT]; intro v hv; obtain ⟨_, _, rfl⟩ := List.mem_map.1 hv; rfl)
  have TL := Lib.hid (show T.length = 256 by rw [hT, crcT_length])
  obtain ⟨Z, hZ, hZL⟩ := zeroT0
  have HZ := Lib.hid hZ
  have ZL := Lib.hid hZL
  clear hk hS hp hle hs' hT hZ hZL
  go_enter Try.func77, Try.ntmps77
  go_wp2_with (first | ((with_reducible refine Se.isL (o := ⟨some 5, _, _, _, _, _⟩) ?_); (refine Se.toL rfl (Se.al (o := ⟨some 5, _, _, _, _, _⟩) hs rfl (HZ.out) ?_); clear hs; rintro w g5 - hs)) | ((with_reducible refine Se.isL (o := ⟨none, _, _, _, _, _⟩) ?_); (refine Se.toL rfl (Se.sow 0 hs rfl rfl rfl rfl (TO.out) ((by rw [TL.out]; kernel_rfl)) ((by rw [TL.out, ZL.out])) ?_); clear hs; intro w hs; try simp only [List.set_cons_zero] at hs)) | (go_at_call 80; refine Calls.mono (table_st hs TT.out) ?_; clear hs; rintro e w ⟨rfl, hs⟩) | (go_at_call 83; refine Calls.mono (updated_st hs s l HK.out (HS.out.cons _) (fun p hp => (HP.out p hp).cons _) HL.out hkl (TT.out ▸ Reads.blk 0 rfl) HE.out) ?_; clear hs; rintro e w ⟨rfl, hs⟩))
  go_ret
  exact ⟨rfl, hs.drop⟩
end Pd
end Go.Proofs.Ytgpbmohfgjmpkaa
