/- Layer 38: a message's bytes and a party's response. No condition but Go's own limits. -/
import Derived.Test.YtakdoijemopejaaGreatAuEq
import Derived.Laws.IdiomStrings
set_option linter.unusedSimpArgs false
set_option linter.unusedVariables false
namespace Go.Proofs.YtakdoijemopejaaGreat
open Go Go.RowKit
namespace Au
open Se (St At Reads Cell)
open Li (v8 v8_one Rd Blk)
open Bv (n8 n16 n32 n64)
variable {w0 w : World} {X : List Nat} {L : List At}
attribute [local irreducible] Calls
theorem wI : (Tryz.prog.info? 88).bind (fun i => i.zero.map (·.cells.toList)) = some [.slice none 0 0] := by kernel_rfl
theorem a32J : (Tryz.prog.info? 34).bind (fun i => i.zero.map (·.cells.toList)) = some (z32.map v8) := by kernel_rfl
theorem fieldI2 : (Tryz.prog.info? 92).map (fun i => (i.zero, i.size)) = some (some (.agg #[.int .u64 0, .int .i64 0]), 2) := by kernel_rfl
theorem w8 (x : BitVec 8) : IntKind.u64.wrap (n8 x) = n64 (x.setWidth 64) := by
 rw [Bv.wrap_n64_of]; congr 1; unfold n8; apply BitVec.eq_of_toNat_eq; simp
theorem w16 (x : BitVec 16) : IntKind.u64.wrap (n16 x) = n64 (x.setWidth 64) := by
 rw [Bv.wrap_n64_of]; congr 1; unfold n16; apply BitVec.eq_of_toNat_eq; simp
theorem w32 (x : BitVec 32) : IntKind.u64.wrap (n32 x) = n64 (x.setWidth 64) := by
 rw [Bv.wrap_n64_of]; congr 1; unfold n32; apply BitVec.eq_of_toNat_eq; simp
/-- The fields of a head. -/
def hf (h : Hd) : List (BitVec 64 × Nat) := [(h.k.setWidth 64, 1), (h.f.setWidth 64, 1), (h.q.setWidth 64, 2), (h.s.setWidth 64, 4)]
theorem hf_ok (h : Hd) : ∀ p ∈ hf h, okf p := by
 intro p hp
 simp only [hf, List.mem_cons, List.not_mem_nil, or_false] at hp
 rcases hp with rfl | rfl | rfl | rfl
 all_goals
  refine ⟨by simp, by simp, ?_⟩
  apply BitVec.eq_of_toNat_eq
  simp [Nat.shiftRight_eq_div_pow]
  have h1 := h.k.isLt
  have h2 := h.f.isLt
  have h3 := h.q.isLt
  have h4 := h.s.isLt
  omega
theorem flat_row (ps : List Bs) (hp : ∀ p ∈ ps, p.length = 32) (i : Nat) (h : i < ps.length) : (ps.flatten.drop (i * 32)).take 32 = ps[i] := by
 induction ps generalizing i with
 | nil => simp at h
 | cons a l ih =>
  have ha := hp a List.mem_cons_self
  match i with
  | 0 => simp [← ha]
  | i + 1 =>
   rw [List.flatten_cons, show (i + 1) * 32 = a.length + i * 32 by omega, ← List.drop_drop, List.drop_left]
   exact ih (fun p q => hp p (List.mem_cons_of_mem _ q)) i (by simpa using h)
theorem flat_len (ps : List Bs) (hp : ∀ p ∈ ps, p.length = 32) : ps.flatten.length = 32 * ps.length := by
 induction ps with
 | nil => rfl
 | cons a l ih =>
  rw [List.flatten_cons, List.length_append, hp a List.mem_cons_self, ih fun p q => hp p (List.mem_cons_of_mem _ q), List.length_cons]; omega
theorem headL_len (h : Hd) : (headL h).length = 8 := by simp [headL, putL_length]
theorem flat_snoc (ps : List Bs) (i : Nat) (h : i < ps.length) : (ps.take (i + 1)).flatten = (ps.take i).flatten ++ ps[i] := by
 rw [List.take_succ_eq_append_getElem h, List.flatten_append]; simp
theorem hf_fb (h : Hd) : fb (hf h) = headL h := by simp [fb, hf, headL]
section
attribute [local go_sem] w8 w16 w32
set_option maxRecDepth 100000 in
set_option maxHeartbeats 4000000 in
theorem msg_st (hs : St w0 X L w) (h : Hd) (ps : List Bs) {A : Option Addr} {k c : Nat} (hk : k = ps.length) (hk2 : k ≤ 2) (hp : ∀ p ∈ ps, p.length = 32) (hr : Reads L A (ps.flatten.map v8)) :
  Calls Tryz.prog 29 #[.agg (hc h).toArray, .slice A k c] w fun e w' => ∃ r2 A2 c2, e = .returned (.slice A2 (8 + 32 * k) c2) ∧ St w0 X (.own 1 r2 A2 (8 + 32 * k) c2 ((msg h ps).map v8) :: L) w' := by
 have CB : Hid (∀ (g5 g24 gh : Nat) (t1 t2 : TypeId) (HC : List Value) (w : World), St w0 X (.blk g24 t1 (fcl (hf h)) :: wB g5 none 0 0 :: .blk gh t2 HC :: L) w → Calls Tryz.prog 42 #[.pointer (some ⟨g5, 0, none⟩), .slice (some ⟨g24, 0, none⟩) 4 4] w fun e w' => ∃ r A c, e = .returned (.int .i64 0) ∧ St w0 X (wB g5 A 8 c :: .own 1 r A 8 c ((headL h).map v8) :: L) w') := Lib.hid (fun g5 g24 gh t1 t2 HC w hs => by
  have hs2 := (hs.pull 1 rfl).nil_own 1 none
  replace hs2 := hs2.perm (List.Perm.swap _ _ _)
  refine (addAll_st (bs := []) (cap := 4) (q := 8) hs2 (hf h) (k := 4) rfl (Reads.blk 0 rfl) (hf_ok h) (by omega) (by rw [hf_fb]; simp [headL, putL_length]) (by omega)).mono ?_
  rintro e w' ⟨r, A, c, rfl, h3⟩
  refine ⟨r, A, c, rfl, ?_⟩
  rw [List.nil_append, hf_fb] at h3
  exact (((h3.pull 3 rfl).drop.pull 2 rfl).drop))
 obtain ⟨HL, hHL⟩ : ∃ HL, HL = hc h := ⟨_, rfl⟩
 obtain ⟨⟨k0, f0, q0, s0⟩, hh⟩ : ∃ h', h' = h := ⟨_, rfl⟩
 have H0 := Lib.hid (show HL[0]? = some (.int .u8 (n8 k0)) by rw [hHL, ← hh]; rfl)
 have H1 := Lib.hid (show HL[1]? = some (.int .u8 (n8 f0)) by rw [hHL, ← hh]; rfl)
 have H2 := Lib.hid (show HL[2]? = some (.int .u16 (n16 q0)) by rw [hHL, ← hh]; rfl)
 have H3 := Lib.hid (show HL[3]? = some (.int .u32 (n32 s0)) by rw [hHL, ← hh]; rfl)
 have HF := Lib.hid (show fcl (hf h) = [.int .u64 (n64 (k0.setWidth 64)), .int .i64 1, .int .u64 (n64 (f0.setWidth 64)), .int .i64 1, .int .u64 (n64 (q0.setWidth 64)), .int .i64 2, .int .u64 (n64 (s0.setWidth 64)), .int .i64 4] by rw [← hh]; rfl)
 rw [← hHL]
 clear hHL hh
 have HK := Lib.hid hk
 have HP := Lib.hid hp
 have hr0 := Lib.hid hr
 clear hk hp hr
 go_enter Tryz.func29, Tryz.ntmps29
 go_wp2_with (first | ((with_reducible refine Se.isL (o := ⟨some 5, _, _, _, _, _⟩) ?_); (refine Se.toL rfl (Se.al (o := ⟨some 5, _, _, _, _, _⟩) hs rfl (wI) ?_); clear hs; rintro w g5 - hs)) | ((with_reducible refine Se.isL (o := ⟨some 9, _, _, _, _, _⟩) ?_); (refine Se.toL rfl (Se.ld (o := ⟨some 9, _, _, _, _, _⟩) hs rfl rfl (Cell.blk 1 rfl H0.out) (by kernel_rfl) ?_))) | ((with_reducible refine Se.isL (o := ⟨some 13, _, _, _, _, _⟩) ?_); (refine Se.toL rfl (Se.ld (o := ⟨some 13, _, _, _, _, _⟩) hs rfl rfl (Cell.blk 1 rfl H1.out) (by kernel_rfl) ?_))) | ((with_reducible refine Se.isL (o := ⟨some 17, _, _, _, _, _⟩) ?_); (refine Se.toL rfl (Se.ld (o := ⟨some 17, _, _, _, _, _⟩) hs rfl rfl (Cell.blk 1 rfl H2.out) (by kernel_rfl) ?_))) | ((with_reducible refine Se.isL (o := ⟨some 21, _, _, _, _, _⟩) ?_); (refine Se.toL rfl (Se.ld (o := ⟨some 21, _, _, _, _, _⟩) hs rfl rfl (Cell.blk 1 rfl H3.out) (by kernel_rfl) ?_))) | ((first | with_reducible refine Se.ab hs ?_ | with_reducible refine Se.abc hs ?_); clear hs; (first | ((fail_if_success (have _q := gh)); generalize w.heap.size = gh; intro w hs) | (generalize w.heap.size = g24; intro w hs))) | (go_at_call 42; refine Calls.mono (CB.out _ _ _ _ _ _ _ (by rw [HF.out]; exact hs)) ?_; clear hs; rintro e w ⟨r, B, c', rfl, hs⟩))
 clear CB H0 H1 H2 H3 HF
 go_loopg [28] k (fun gh s28 wr => ∃ (i : Nat) (r : Option Nat) (B : Option Addr) (c' q : Nat), gh = k - i ∧ i ≤ k ∧ s28 = .int .i64 i ∧ Hid (q = 8 + 32 * i) ∧ St w0 X (wB g5 B q c' :: .own 1 r B q c' ((headL h ++ (ps.take i).flatten).map v8) :: L) wr)
 case atStart => exact ⟨0, r, B, c', 8, rfl, by omega, rfl, Lib.hid rfl, by simpa using hs⟩
 case round =>
  clear hs
  rename World => w
  obtain ⟨i, r, B, c', q, rfl, hi, rfl, HQ, hs⟩ := hrel
  by_cases hlt : i < k
  ·have hlt' : (i : Int) < (k : Int) := by omega
   have hil : i < ps.length := by have := HK.out; omega
   obtain ⟨p, hpe⟩ : ∃ p, p = ps[i] := ⟨_, rfl⟩
   have hpl : p.length = 32 := by rw [hpe]; exact HP.out _ (List.getElem_mem hil)
   have FR := flat_row ps HP.out i hil
   have FS := Lib.hid (flat_snoc ps i hil)
   rw [← hpe] at FR FS
   obtain ⟨g, off, rfl⟩ : ∃ g off, A = some ⟨g, off, none⟩ := by
    obtain ⟨g, off, h, _⟩ := (hr0.out w (fun a ha => hs.hold a (List.mem_cons_of_mem _ (List.mem_cons_of_mem _ ha)))).cells (by intro e; have h2 := congrArg List.length e; rw [List.length_map, List.length_nil] at h2; rw [List.length_eq_zero_iff.1 h2] at FR; simp at FR; rw [FR] at hpl; simp at hpl)
    exact ⟨g, off, h⟩
   obtain ⟨V, hV⟩ : ∃ V, V = p.map v8 := ⟨_, rfl⟩
   have hrow := Lib.hid (show Reads L (some ⟨g, off + i * 32, none⟩) V by
    have h := (hr0.out.at (i * 32)).take 32
    rw [← List.map_drop, ← List.map_take, FR] at h
    rw [hV]; exact h)
   have VL := Lib.hid (show V.length = 32 by rw [hV]; simpa using hpl)
   have VO := Lib.hid (show ∀ v ∈ V, v.oneCell' = true by rw [hV]; exact v8_one p)
   have CA : Hid (∀ (g7 : Nat) (t : TypeId) (w : World), St w0 X (.blk g7 t V :: wB g5 B q c' :: .own 1 r B q c' ((headL h ++ (ps.take i).flatten).map v8) :: L) w → Calls Tryz.prog 43 #[.pointer (some ⟨g5, 0, none⟩), .slice (some ⟨g7, 0, none⟩) 32 32] w fun e w' => ∃ r A c, e = .returned (.int .i64 0) ∧ St w0 X (wB g5 A (q + 32) c :: .own 1 r A (q + 32) c ((headL h ++ (ps.take (i + 1)).flatten).map v8) :: L) w') := Lib.hid (fun g7 t w hs => by
    refine (addBytes_st (d := 32) (m := 32) (q := q + 32) hs.rot3 (by rw [← hV]; exact Reads.blk 0 rfl) hpl.symm rfl (by have := HQ.out; omega)).mono ?_
    rintro e w' ⟨r, A, c, rfl, h3⟩
    refine ⟨r, A, c, rfl, ?_⟩
    rw [FS.out, ← List.append_assoc]
    exact (h3.pull 2 rfl).drop)
   clear hV FR hpe hpl hil
   go_wp2_with (first | ((with_reducible refine Se.isL (o := ⟨some 31, _, _, _, _, _⟩) ?_); (refine Se.toL rfl (Se.ldw (o := ⟨some 31, _, _, _, _, _⟩) hs rfl rfl (((hrow.out.cons _).cons _)) ((by rw [VL.out]; kernel_rfl)) (by kernel_rfl) ?_))) | ((with_reducible refine Se.isL (o := ⟨some 7, _, _, _, _, _⟩) ?_); (refine Se.toL rfl (Se.al (o := ⟨some 7, _, _, _, _, _⟩) hs rfl (a32J) ?_); clear hs; rintro w g7 - hs)) | ((with_reducible refine Se.isL (o := ⟨none, _, _, _, _, _⟩) ?_); (refine Se.toL rfl (Se.sow 0 hs rfl rfl rfl rfl (VO.out) ((by rw [VL.out]; kernel_rfl)) (VL.out) ?_); clear hs; intro w hs; try simp only [List.cons_append, List.nil_append, List.set_cons_zero] at hs)) | (go_at_call 43; refine Calls.mono (CA.out _ _ _ hs) ?_; clear hs; rintro e w ⟨r', B', c'', rfl, hs⟩))
   go_roundg (k - (i + 1))
   case measure => omega
   case rel => exact ⟨i + 1, r', B', c'', q + 32, rfl, by omega, by go_num, Lib.hid (by have := HQ.out; omega), hs⟩
  ·obtain rfl : i = k := by omega
   have C := Lib.hid (bytes_st hs (by rw [HQ.out, List.length_append, List.take_of_length_le (by have := HK.out; omega), headL_len, flat_len ps HP.out, ← HK.out]) (by have := HQ.out; omega))
   go_wp2_with (first | (go_at_call 44; refine Calls.mono (C.out) ?_; clear hs; rintro e w ⟨r2, A2, c2, rfl, hs⟩))
   go_ret
   rw [← HQ.out]
   refine ⟨r2, A2, c2, rfl, ?_⟩
   rw [List.take_of_length_le (by have := HK.out; omega)] at hs
   exact hs
/-- A party's cells, and the slice's length. -/
def sB (s : ByteArray) : Bs := s.data.toList.map (·.toBitVec)
theorem sB_len (s : ByteArray) : (sB s).length = s.size := by simp [sB]
theorem bytesRow_get (s : ByteArray) (c i : Nat) (h : i < s.size) : (bytesRow s c).toList[i]? = ((sB s).map v8)[i]? := by
 have h2 : i < s.data.toList.length := by simpa using h
 unfold bytesRow sB
 simp only [Array.toList_append, Array.toList_map, List.map_map]
 rw [List.getElem?_append_left (by simpa using h), List.getElem?_map, List.getElem?_map]
 congr 1
theorem _root_.Go.Proofs.YtakdoijemopejaaGreat.Se.cvt {P : Program} {o : Oper} {a : Act} {G : Value → World → Prop} (hs : St w0 X L w) {src dst e : TypeId} {x : Operand} (ho : o.op = .convert src dst x) {s : ByteArray} (hx : a.eval x = .string s) (h1 : P.underlying src = some .string) (h2 : P.underlying dst = some (.slice e)) (h3 : P.underlying e = some (.int .u8))
  (h : ∀ (w' : World) (A : Option Addr) (c : Nat), St w0 X (.rd A ((sB s).map v8) :: L) w' → G (.slice A s.size c) w') : Hv.Gives P o a w G := by
 have hr := run_bytes_of_string w src dst e s h1 h2 h3
 obtain ⟨c, hc⟩ : ∃ c, c = grownCap w s.size 0 e := ⟨_, rfl⟩
 obtain ⟨R, hR⟩ : ∃ R, R = bytesRow s c := ⟨_, rfl⟩
 rw [← hc, ← hR] at hr
 have hB : Below w.heap.size w (w.drew.alloc (.cells R e (R.size, R.size + 1))) := (show Below w.heap.size w w.drew from Hv.Ext.drew w).alloc (Nat.le_refl _) _
 have hf : (w.drew.alloc (.cells R e (R.size, R.size + 1))).heap[w.heap.size]? = some (.cells R.toList.toArray e (R.size, R.size + 1)) := by
  show (w.heap.push _)[w.heap.size]? = _
  simp
 unfold Hv.Gives execOp
 simp only [ho, hx, Sem.run_bind, hr, Result.andThen_ok, Sem.run_pure]
 refine h _ (some ⟨w.heap.size, 0, none⟩) c ((hs.ext hB).addRd (.inr ⟨w.heap.size, 0, rfl, fun i hi => ?_⟩) ?_)
 ·rw [Nat.zero_add, cell_of_row _ _ i _ e _ hf]
  rw [hR, List.getElem?_toArray, bytesRow_get s c i (by simpa [sB_len] using hi)]
 ·intro b hb hx ad ha
  cases ha
  obtain ⟨q, hq, hbq⟩ := List.mem_flatMap.1 hb
  exact fun e => absurd (Se.At.lt (hs.hold q hq) hbq) (by simp at e; omega)
structure Pn where
 sec : Bs
 hs : ByteArray
 sb : ByteArray
abbrev Pn.py (p : Pn) : Py := ⟨p.sec, sB p.hs, sB p.sb⟩
def pcl (p : Pn) (A : Option Addr) (c : Nat) : List Value := [.slice A p.sec.length c, .string p.hs, .string p.sb]
def rf (h : Hd) (role : BitVec 8) : List (BitVec 64 × Nat) := [(h.s.setWidth 64, 4), (h.q.setWidth 64, 2), (role.setWidth 64, 1)]
theorem rf_ok (h : Hd) (role : BitVec 8) : ∀ p ∈ rf h role, okf p := by
 intro p hp
 simp only [rf, List.mem_cons, List.not_mem_nil, or_false] at hp
 rcases hp with rfl | rfl | rfl
 all_goals
  refine ⟨by simp, by simp, ?_⟩
  apply BitVec.eq_of_toNat_eq
  simp [Nat.shiftRight_eq_div_pow]
  have h1 := role.isLt
  have h3 := h.q.isLt
  have h4 := h.s.isLt
  omega
theorem rf_fb (h : Hd) (role : BitVec 8) : fb (rf h role) = putL (h.s.setWidth 64) 4 ++ putL (h.q.setWidth 64) 2 ++ putL (role.setWidth 64) 1 := by simp [fb, rf]
theorem strsI (a b : ByteArray) (w : World) : (Instr.build 101 #[(0, .string a), (1, .string b)]).run Tryz.prog w = .ok (.agg #[.string a, .string b]) w := by kernel_rfl
set_option maxRecDepth 100000 in
set_option maxHeartbeats 4000000 in
theorem resp_st (hs : St w0 X L w) (p : Pn) (A : Option Addr) (c : Nat) (nonce : Bs) (h : Hd) (role : BitVec 8) (hr : Reads L A (p.sec.map v8)) (hk : p.sec.length ≤ 64) (hn : nonce.length = 32) (h1 : p.hs.size ≤ 240) (h2 : p.sb.size ≤ 240) :
  Calls Tryz.prog 35 #[.agg (pcl p A c).toArray, .agg (nonce.map v8).toArray, .agg (hc h).toArray, .int .u8 (n8 role)] w fun e w' => e = .returned (.agg ((resp p.py nonce h role).map v8).toArray) ∧ St w0 X L w' := by
 obtain ⟨HL, hHL⟩ : ∃ HL, HL = hc h := ⟨_, rfl⟩
 obtain ⟨PL, hPL⟩ : ∃ PL, PL = pcl p A c := ⟨_, rfl⟩
 obtain ⟨NV, hNV⟩ : ∃ NV, NV = nonce.map v8 := ⟨_, rfl⟩
 obtain ⟨R, hR⟩ : ∃ R, R = (resp p.py nonce h role).map v8 := ⟨_, rfl⟩
 rw [← hHL, ← hPL, ← hNV, ← hR]
 obtain ⟨hk0, hf0, hq0, hs0⟩ := h
 have NL := Lib.hid (show NV.length = 32 by rw [hNV]; simpa using hn)
 have H2 := Lib.hid (show HL[2]? = some (.int .u16 (n16 hq0)) by rw [hHL]; rfl)
 have H3 := Lib.hid (show HL[3]? = some (.int .u32 (n32 hs0)) by rw [hHL]; rfl)
 have HP := Lib.hid hPL
 have P0 := Lib.hid (show PL[0]? = some (.slice A p.sec.length c) by rw [hPL]; rfl)
 have P1 := Lib.hid (show PL[1]? = some (.string p.hs) by rw [hPL]; rfl)
 have P2 := Lib.hid (show PL[2]? = some (.string p.sb) by rw [hPL]; rfl)
 have HNV := Lib.hid hNV
 have hr0 := Lib.hid hr
 obtain ⟨S, hS⟩ : ∃ S : Nat → Bs, S = fun i => nonce ++ (putL (hs0.setWidth 64) 4 ++ putL (hq0.setWidth 64) 2 ++ putL (role.setWidth 64) 1) ++ (if 1 ≤ i then putL (BitVec.ofNat 64 p.hs.size) 2 ++ sB p.hs else []) ++ (if 2 ≤ i then putL (BitVec.ofNat 64 p.sb.size) 2 ++ sB p.sb else []) := ⟨_, rfl⟩
 have S0 := Lib.hid (show S 0 = nonce ++ fb (rf ⟨hk0, hf0, hq0, hs0⟩ role) by rw [hS, rf_fb]; simp)
 have SS := Lib.hid (show ∀ i : Nat, i < 2 → ∃ s : ByteArray, s.size ≤ 240 ∧ (∀ wx : World, (Instr.index 101 (.agg #[.string p.hs, .string p.sb]) (.int .i64 (i : Int))).run Tryz.prog wx = .ok (.string s) wx) ∧ S (i + 1) = S i ++ putL (BitVec.ofNat 64 s.size) 2 ++ sB s by
  intro i hi
  match i with
  | 0 => exact ⟨p.hs, h1, fun wx => by kernel_rfl, by rw [hS]; simp⟩
  | 1 => exact ⟨p.sb, h2, fun wx => by kernel_rfl, by rw [hS]; simp⟩)
 have SR := Lib.hid (show R = (Sha.hmacL p.sec (S 2)).map v8 by rw [hR, hS]; unfold resp respM; simp [sB_len])
 have RL := Lib.hid (show R.length = 32 by rw [SR.out]; simp [Sha.hmacL, Sha.shaL_length])
 have RO := Lib.hid (show ∀ v ∈ R, v.oneCell' = true by rw [SR.out]; exact v8_one _)
 obtain ⟨Z, hZ⟩ : ∃ Z, Z = z32.map v8 := ⟨_, rfl⟩
 have aJ := Lib.hid a32J
 have ZL := Lib.hid (show Z.length = 32 by rw [hZ]; rfl)
 rw [← hZ] at aJ
 have hk := Lib.hid hk
 have hn := Lib.hid hn
 clear hHL hPL hNV hR hS hZ h1 h2 hr
 have LEN := Lib.hid (show ∀ s : ByteArray, s.size ≤ 240 → okf (BitVec.ofNat 64 s.size, 2) ∧ n64 (BitVec.ofNat 64 s.size) = (s.size : Int) by
  intro s h
  refine ⟨⟨by simp, by simp, ?_⟩, ?_⟩
  ·apply BitVec.eq_of_toNat_eq; simp [Nat.shiftRight_eq_div_pow]; omega
  ·unfold n64; simp; omega)
 have CN : Hid (∀ (L' : List At) (g9 gn : Nat) (t : TypeId) (w : World), At.blk gn t NV ∈ L' → St w0 X (wB g9 none 0 0 :: L') w → Calls Tryz.prog 43 #[.pointer (some ⟨g9, 0, none⟩), .slice (some ⟨gn, 0, none⟩) 32 32] w fun e w' => ∃ r A c, e = .returned (.int .i64 0) ∧ St w0 X (wB g9 A 32 c :: .own 1 r A 32 c (nonce.map v8) :: L') w') := Lib.hid (fun L' g9 gn t w hm hs => by
  have h2 := (hs.nil_own 1 none).perm (List.Perm.swap _ _ _)
  refine (addBytes_st (bs := []) (d := 32) (q := 32) h2 (ys := nonce) (m := 32) (by rw [← HNV.out]; intro w hw; exact Rd.of_blk (hw _ hm)) hn.out.symm rfl (by omega)).mono ?_
  rintro e w' ⟨r, A, c, rfl, h3⟩
  exact ⟨r, A, c, rfl, by simpa using h3⟩)
 have CF : Hid (∀ (L' : List At) (g9 g25 : Nat) (t : TypeId) (r : Option Nat) (B : Option Addr) (c : Nat) (w : World), St w0 X (.blk g25 t [.int .u64 (n64 (hs0.setWidth 64)), .int .i64 4, .int .u64 (n64 (hq0.setWidth 64)), .int .i64 2, .int .u64 (n64 (role.setWidth 64)), .int .i64 1] :: wB g9 B 32 c :: .own 1 r B 32 c (nonce.map v8) :: L') w → Calls Tryz.prog 42 #[.pointer (some ⟨g9, 0, none⟩), .slice (some ⟨g25, 0, none⟩) 3 3] w fun e w' => ∃ r A c, e = .returned (.int .i64 0) ∧ St w0 X (wB g9 A 39 c :: .own 1 r A 39 c ((S 0).map v8) :: L') w') := Lib.hid (fun L' g9 g25 t r B c w hs => by
  refine (addAll_st (cap := 3) (q := 39) hs.rot3 (rf ⟨hk0, hf0, hq0, hs0⟩ role) (k := 3) rfl (Reads.blk 0 rfl) (rf_ok _ _) (by omega) (by rw [rf_fb]; simp [putL_length]) (by omega)).mono ?_
  rintro e w' ⟨r, A, c, rfl, h3⟩
  exact ⟨r, A, c, rfl, by rw [S0.out]; exact (h3.pull 2 rfl).drop⟩)
 go_enter Tryz.func35, Tryz.ntmps35
 go_upto_region 2 with (first | ((with_reducible refine Se.isL (o := ⟨some 8, _, _, _, _, _⟩) ?_); (refine Se.toL rfl (Se.al (o := ⟨some 8, _, _, _, _, _⟩) hs rfl (aJ.out) ?_); clear hs; rintro w g8 - hs)) | ((with_reducible refine Se.isL (o := ⟨some 9, _, _, _, _, _⟩) ?_); (refine Se.toL rfl (Se.al (o := ⟨some 9, _, _, _, _, _⟩) hs rfl (wI) ?_); clear hs; rintro w g9 - hs)) | ((first | with_reducible refine Se.ab hs ?_ | with_reducible refine Se.abc hs ?_); clear hs; (first | ((fail_if_success (have _q := gp)); generalize w.heap.size = gp; intro w hs) | ((fail_if_success (have _q := gn)); generalize w.heap.size = gn; intro w hs) | (generalize w.heap.size = gh; intro w hs))))
 go_upto_region 3 with (first | (go_at_call 43; refine Calls.mono (CN.out _ _ _ 34 _ (by simp) hs) ?_; clear hs; rintro e w ⟨r, B, c', rfl, hs⟩))
 go_upto_region 4 with (first | ((with_reducible refine Se.isL (o := ⟨some 15, _, _, _, _, _⟩) ?_); (refine Se.toL rfl (Se.ld (o := ⟨some 15, _, _, _, _, _⟩) hs rfl rfl (Cell.blk 3 rfl H3.out) (by kernel_rfl) ?_))) | ((with_reducible refine Se.isL (o := ⟨some 19, _, _, _, _, _⟩) ?_); (refine Se.toL rfl (Se.ld (o := ⟨some 19, _, _, _, _, _⟩) hs rfl rfl (Cell.blk 3 rfl H2.out) (by kernel_rfl) ?_))) | ((first | with_reducible refine Se.ab hs ?_ | with_reducible refine Se.abc hs ?_); clear hs; (first | (generalize w.heap.size = g25; intro w hs))) | (go_at_call 42; refine Calls.mono (CF.out _ _ _ _ _ _ _ _ hs) ?_; clear hs; rintro e w ⟨r, B, c', rfl, hs⟩))
 clear CN CF
 have CL : Hid (∀ (i q g9 : Nat) (L' : List At) (s : ByteArray) (r : Option Nat) (B : Option Addr) (c : Nat) (w : World), s.size ≤ 240 → q ≤ 290 → St w0 X (wB g9 B q c :: .own 1 r B q c ((S i).map v8) :: L') w → Calls Tryz.prog 49 #[.pointer (some ⟨g9, 0, none⟩), .int .u64 (s.size : Int), .int .i64 2] w fun e w' => ∃ r A c, e = .returned (.int .i64 0) ∧ St w0 X (wB g9 A (q + 2) c :: .own 1 r A (q + 2) c ((S i ++ putL (BitVec.ofNat 64 s.size) 2).map v8) :: L') w') := Lib.hid (fun i q g9 L' s r B c w h1 h2 hs => by
  have h3 := add1_st (q := q + 2) hs (BitVec.ofNat 64 s.size, 2) (LEN.out s h1).1 rfl (by omega)
  rw [(LEN.out s h1).2] at h3
  exact h3)
 have CS : Hid (∀ (i q g9 : Nat) (A40 : Option Addr) (L' : List At) (s : ByteArray) (r : Option Nat) (B : Option Addr) (c d : Nat) (w : World), s.size ≤ 240 → q ≤ 300 → S (i + 1) = S i ++ putL (BitVec.ofNat 64 s.size) 2 ++ sB s → St w0 X (.rd A40 ((sB s).map v8) :: wB g9 B q c :: .own 1 r B q c ((S i ++ putL (BitVec.ofNat 64 s.size) 2).map v8) :: L') w → Calls Tryz.prog 43 #[.pointer (some ⟨g9, 0, none⟩), .slice A40 s.size d] w fun e w' => ∃ r A c, e = .returned (.int .i64 0) ∧ St w0 X (wB g9 A (q + s.size) c :: .own 1 r A (q + s.size) c ((S (i + 1)).map v8) :: L') w') := Lib.hid (fun i q g9 A40 L' s r B c d w h1 h2 h3 hs => by
  refine (addBytes_st (d := d) (q := q + s.size) hs.rot3 (Reads.rd 0 rfl) (by rw [sB_len]) rfl (by omega)).mono ?_
  rintro e w' ⟨r, A, c, rfl, h4⟩
  exact ⟨r, A, c, rfl, by rw [h3]; exact (h4.pull 2 rfl).drop⟩)
 go_wp2_with (first | ((with_reducible refine Se.isL (o := ⟨some 28, _, _, _, _, _⟩) ?_); (refine Se.toL rfl (Se.ld (o := ⟨some 28, _, _, _, _, _⟩) hs rfl rfl (Cell.blk 5 rfl P1.out) (by kernel_rfl) ?_))) | ((with_reducible refine Se.isL (o := ⟨some 30, _, _, _, _, _⟩) ?_); (refine Se.toL rfl (Se.ld (o := ⟨some 30, _, _, _, _, _⟩) hs rfl rfl (Cell.blk 5 rfl P2.out) (by kernel_rfl) ?_))) | ((with_reducible refine Se.isL (o := ⟨some 31, _, _, _, _, _⟩) ?_); (refine Se.toL rfl (Se.bd (o := ⟨some 31, _, _, _, _, _⟩) rfl rfl (strsI _ _ _) ?_))))
 go_loopg [32] 2 (fun gh0 s32 wr => ∃ (i : Nat) (r : Option Nat) (B : Option Addr) (c' q : Nat), gh0 = 2 - i ∧ i ≤ 2 ∧ s32 = .int .i64 i ∧ Hid (q = (S i).length ∧ q ≤ 39 + 242 * i) ∧ St w0 X (wB g9 B q c' :: .own 1 r B q c' ((S i).map v8) :: .blk g8 34 Z :: .blk gh 67 HL :: .blk gn 34 NV :: .blk gp 65 PL :: L) wr)
 case atStart => exact ⟨0, r, B, c', 39, rfl, by omega, rfl, Lib.hid ⟨by rw [S0.out, rf_fb]; simp [putL_length, hn.out], by omega⟩, hs⟩
 case round =>
  clear hs
  rename World => w
  obtain ⟨i, r, B, c', q, rfl, hi, rfl, HQ, hs⟩ := hrel
  by_cases hlt : i < 2
  ·have hlt' : (i : Int) < 2 := by omega
   obtain ⟨s, hs240, hix, hSS⟩ := SS.out i hlt
   have C1 := Lib.hid (CL.out i q g9 _ s r B c' w hs240 (by have := HQ.out; omega) hs)
   have HSS := Lib.hid hSS
   have HS2 := Lib.hid hs240
   clear hSS
   go_upto_region 8 with (first | (go_at_call 49; refine Calls.mono (C1.out) ?_; clear hs; rintro e w ⟨r2, B2, c2, rfl, hs⟩))
   go_wp2_with (first | (with_reducible refine Se.isL (o := ⟨some 40, _, _, _, _, _⟩) ?_; refine Se.toL rfl (Se.cvt (o := ⟨some 40, _, _, _, _, _⟩) hs rfl rfl Tryz.underlying9 Tryz.underlying22 Tryz.underlying5 ?_); clear hs; rintro w A40 c40 hs) | (go_at_call 43; refine Calls.mono (CS.out i (q + 2) g9 A40 _ s _ _ _ _ _ HS2.out (by have := HQ.out; omega) HSS.out hs) ?_; clear hs; rintro e w ⟨r3, B3, c3, rfl, hs⟩))
   go_roundg (2 - (i + 1))
   case measure => omega
   case rel => exact ⟨i + 1, r3, B3, c3, q + 2 + s.size, rfl, by omega, by go_num, Lib.hid ⟨by rw [HSS.out, List.length_append, List.length_append, putL_length, sB_len, ← HQ.out.1], by have := HQ.out; have := HS2.out; omega⟩, hs⟩
  ·obtain rfl : i = 2 := by omega
   clear CL CS SS
   go_upto_region 10 with (fail)
   have CB : Hid (∀ w, St w0 X (wB g9 B q c' :: .own 1 r B q c' ((S 2).map v8) :: .blk g8 34 Z :: .blk gh 67 HL :: .blk gn 34 NV :: .blk gp 65 PL :: L) w → Calls Tryz.prog 44 #[.pointer (some ⟨g9, 0, none⟩)] w fun e w' => ∃ r2 A2 c2, e = .returned (.slice A2 q c2) ∧ St w0 X (.own 1 r2 A2 q c2 ((S 2).map v8) :: .blk g8 34 Z :: .blk gh 67 HL :: .blk gn 34 NV :: .blk gp 65 PL :: L) w') := Lib.hid (fun w hs => bytes_st hs HQ.out.1 (by have := HQ.out; omega))
   have CH : Hid (∀ (w : World) (r2 : Option Nat) (A2 : Option Addr) (c2 : Nat), St w0 X (.own 1 r2 A2 q c2 ((S 2).map v8) :: .blk g8 34 Z :: .blk gh 67 HL :: .blk gn 34 NV :: .blk gp 65 PL :: L) w → Calls Tryz.prog 50 #[.slice A p.sec.length c, .slice A2 q c2] w fun e w' => e = .returned (.agg R.toArray) ∧ St w0 X (.own 1 r2 A2 q c2 ((S 2).map v8) :: .blk g8 34 Z :: .blk gh 67 HL :: .blk gn 34 NV :: .blk gp 65 PL :: L) w') := Lib.hid (fun w r2 A2 c2 hs => by
    rw [SR.out]
    exact Sha.hmac_st hs p.sec (S 2) A A2 p.sec.length q c c2 rfl HQ.out.1 (by have := hk.out; omega) (by have := HQ.out; omega) (hr0.out.mono (by intro _ h; simp only [List.mem_cons, h, or_true])) (Reads.own 0 rfl))
   refine Ch.region' 5 (fun wx => Blk wx gp PL 65) (fun | 2 => true | 3 => true | 4 => true | _ => false) (by kernel_rfl) (by decide +kernel) (hs.drew.hold (.blk gp 65 PL) (by simp)) ?_
   replace hs := hs.drew
   generalize w.drew = w at hs ⊢
   change Ch.CW _ _ _ _ _ [0, 1, 2, 3, 4] _ _
   iterate 2 ((first | (refine Ch.pure (v := ?_) (by rfl) (by rfl) (by rfl) (fun wx hS => ?_) ?_; rotate_left; (focus (go_simp; (first | done | with_reducible rfl)))) | refine Ch.pure (v := _) (by rfl) (by rfl) (by rfl) (fun wx hS => Se.xl rfl rfl ((hS.cell _).trans P0.out) (by decide +kernel)) ?_); (try simp only [Act.put, List.setIfInBounds_toArray, List.set_cons_zero, List.set_cons_succ]))
   refine Ch.noise (by rfl) (by rfl) (by rfl) ?_
   refine Se.gcall (f := 44) (args := #[.pointer (some ⟨g9, 0, none⟩)]) ?_ ?_
   ·go_simp
   refine Calls.mono (CB.out _ hs) ?_
   clear hs
   rintro e w ⟨r2, A2, c2, rfl, hs⟩
   refine ⟨_, rfl, hs.hold (.blk gp 65 PL) (by simp), ?_⟩
   (try simp only [Act.put, List.setIfInBounds_toArray, List.set_cons_zero, List.set_cons_succ])
   refine Ch.noise (by rfl) (by rfl) (by rfl) ?_
   refine Se.gcall (f := 50) (args := #[.slice A p.sec.length c, .slice A2 q c2]) ?_ ?_
   ·go_simp
   refine Calls.mono (CH.out _ _ _ _ hs) ?_
   clear hs
   rintro e w ⟨rfl, hs⟩
   refine ⟨_, rfl, hs.hold (.blk gp 65 PL) (by simp), ?_⟩
   (try simp only [Act.put, List.setIfInBounds_toArray, List.set_cons_zero, List.set_cons_succ])
   refine Ch.noise (by rfl) (by rfl) (by rfl) (Se.sow 1 (vs := R) hs rfl rfl rfl rfl RO.out (by rw [RL.out]; kernel_rfl) (by rw [RL.out, ZL.out]) ?_)
   clear hs
   intro w hs
   simp only [List.set_cons_zero, List.set_cons_succ] at hs
   refine ⟨hs.hold (.blk gp 65 PL) (by simp), ?_⟩
   (try simp only [Act.put, List.setIfInBounds_toArray, List.set_cons_zero, List.set_cons_succ])
   refine Ch.done ?_
   try simp only [List.drop_succ_cons, List.drop_zero]
   go_wp2_with fail
   refine Li.bodyPost_blk (by rfl) (by rfl) (hs.hold (.blk g8 34 R) (by simp)) Tryz.underlying34 rfl (by rw [RL.out]; kernel_rfl) rfl ⟨rfl, ?_⟩
   exact hs.drop.drop.drop.drop.drop
end
end Au
end Go.Proofs.YtakdoijemopejaaGreat
