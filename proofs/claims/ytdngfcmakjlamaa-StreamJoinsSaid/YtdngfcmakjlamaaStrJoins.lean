/- Layer 36: the law StreamJoins, the walk. No condition but Go's own limits. -/
import Derived.Test.YtdngfcmakjlamaaStrDrain
import Derived.Test.YtdngfcmakjlamaaStrKnown
import Derived.Test.YtdngfcmakjlamaaPduBk
import Derived.Test.YtdngfcmakjlamaaStrOpen
import Derived.Test.YtdngfcmakjlamaaPduREnc
import Derived.Test.YtdngfcmakjlamaaPduRValid
import Derived.Test.YtdngfcmakjlamaaPduLib
set_option linter.unusedSimpArgs false
set_option linter.unusedVariables false
namespace Go.Proofs.Ytdngfcmakjlamaa
open Go Go.RowKit
namespace Sr
open Pd (Fm PDU meas dec framed pc iv fl fv encE enc valid strB)
open Se (St At Reads Cell)
open Li (v8 v8_one Rd Blk Fr)
open Bv (n8 n16 n32 n64)
variable {w0 w : World} {X : List Nat} {L : List At} {s s' : Rc} {g c c2 : Nat} {B B2 : Option Addr} {r : Option Nat}
attribute [local irreducible] Calls drn
def catE (f : Fm) (ps : List PDU) : List (BitVec 8) := ps.flatMap fun p => enc p f
theorem catE_snoc (f : Fm) (ps : List PDU) (i : Nat) (hi : i < ps.length) : catE f (ps.take (i + 1)) = catE f (ps.take i) ++ enc ps[i] f := by
 unfold catE
 rw [List.take_add_one, List.getElem?_eq_getElem hi]
 simp only [Option.toList_some, List.flatMap_append, List.flatMap_cons, List.flatMap_nil, List.append_nil]
theorem enc_sz {p : PDU} {f : Fm} (hf : framed f = true) (hv : valid p = true) (hd : p.da.length ≤ 500) : (enc p f).length ≤ 764 := by
 rw [Pd.enc_len p f hf hv]
 have a1 := Pd.hdr_le p.h.k.toNat
 have a2 := Pd.hsum_le p.h.k.toNat f
 have a3 := Pd.dsum_le p.h.k.toNat f (decide (0 < p.da.length))
 have a4 := Pd.start_le p.h.k.toNat hf
 unfold Pd.size Pd.hs Pd.ds
 split <;> omega
theorem catE_sz (f : Fm) (hf : framed f = true) : ∀ (ps : List PDU), (∀ p ∈ ps, valid p = true ∧ p.da.length ≤ 500) → (catE f ps).length ≤ ps.length * 764
 | [], _ => by simp [catE]
 | p :: ps, h => by
  have h1 := catE_sz f hf ps (fun q hq => h q (List.mem_cons_of_mem _ hq))
  have h2 := enc_sz hf (h p List.mem_cons_self).1 (h p List.mem_cons_self).2
  unfold catE at h1 ⊢
  rw [List.flatMap_cons, List.length_append, List.length_cons]
  omega
theorem meas_of_dec {b : List (BitVec 8)} {f : Fm} {p : PDU} (h : dec b f = (p, 0)) : meas b f = (b.length, 0) := by
 unfold dec at h
 dsimp only at h
 by_cases h1 : (meas b f).2 ≠ 0
 ·rw [if_pos h1] at h
  exact absurd (Prod.mk.inj h).2 h1
 rw [if_neg h1] at h
 by_cases h2 : b.length < (meas b f).1
 ·rw [if_pos h2] at h; cases h
 rw [if_neg h2] at h
 by_cases h3 : (meas b f).1 < b.length
 ·rw [if_pos h3] at h; cases h
 apply Prod.ext
 ·show (meas b f).1 = b.length
  omega
 ·show (meas b f).2 = 0
  omega
theorem take_enc {p : PDU} {rest : List (BitVec 8)} (hb : s.b = enc p s.f ++ rest) (hf : framed s.f = true) (hv : valid p = true) (hm : (enc p s.f).length ≤ s.mo) : takeE s = (p, (enc p s.f).length, 0) := by
 have hd := Pd.dec_enc hf hv
 have hms := meas_of_dec hd
 have hp := meas_pos (b := enc p s.f) (f := s.f) (by rw [hms])
 rw [hms] at hp
 have hm2 : meas s.b s.f = ((enc p s.f).length, 0) := by rw [hb, meas_pre (by dsimp only at hp; omega), hms]
 have hl : s.b.length = (enc p s.f).length + rest.length := by rw [hb, List.length_append]
 unfold takeE
 dsimp only at hp
 rw [if_neg (by omega), hm2]
 dsimp only
 rw [if_neg (by simp), if_neg (by omega), if_neg (by omega), hb, List.take_left' rfl, hd]
theorem drn_cat : ∀ (ps : List PDU) (k : Nat) (s : Rc), s.e = 0 → s.b = catE s.f ps → framed s.f = true → (∀ p ∈ ps, valid p = true ∧ (enc p s.f).length ≤ s.mo) → ps.length < k → drn k s = (ps, 9, { s with b := [], nb := s.nb + (catE s.f ps).length, np := s.np + ps.length })
 | _, 0, _, _, _, _, _, h => by omega
 | [], k + 1, s, h0, hb, _, _, _ => by
  have hb' : s.b = [] := hb
  have ht : takeE s = ({}, 0, 9) := by unfold takeE; rw [hb']; simp
  have hn : nextE s = (s, {}, 9) := by unfold nextE; rw [if_neg (by simpa using h0), ht]; rfl
  simp only [drn]
  rw [hn, if_pos (by simp)]
  simp only [catE, List.flatMap_nil, List.length_nil, Nat.add_zero]
  rw [← hb']
 | p :: ps, k + 1, s, h0, hb, hf, hv, hk => by
  have hb' : s.b = enc p s.f ++ catE s.f ps := by rw [hb]; unfold catE; rw [List.flatMap_cons]
  have hp := hv p List.mem_cons_self
  have ht := take_enc hb' hf hp.1 hp.2
  have hn : nextE s = ({ s with b := catE s.f ps, nb := s.nb + (enc p s.f).length, np := s.np + 1 }, p, 0) := by
   unfold nextE
   rw [if_neg (by simpa using h0), ht]
   dsimp only
   rw [if_neg (by decide), if_neg (by decide), hb', List.drop_left' rfl]
  have ih := drn_cat ps k { s with b := catE s.f ps, nb := s.nb + (enc p s.f).length, np := s.np + 1 } h0 rfl hf (fun q hq => hv q (List.mem_cons_of_mem _ hq)) (by simp only [List.length_cons] at hk; omega)
  simp only [drn]
  rw [hn, if_neg (by simp)]
  dsimp only
  rw [ih]
  have hc : (catE s.f (p :: ps)).length = (enc p s.f).length + (catE s.f ps).length := by unfold catE; rw [List.flatMap_cons, List.length_append]
  rw [hc]
  simp only [List.length_cons, Prod.mk.injEq, true_and, Rc.mk.injEq, and_true]
  omega
theorem join_cat (f : Fm) (hf : framed f = true) : ∀ (ps : List PDU) (acc : List (BitVec 8)), (∀ p ∈ ps, valid p = true) → joinE f acc ps = (acc ++ catE f ps, 0)
 | [], acc, _ => by simp [joinE, catE]
 | p :: ps, acc, h => by
  have h1 : encE p f = (enc p f, 0) := by unfold Pd.encE; rw [if_pos hf, if_pos (h p List.mem_cons_self)]
  rw [joinE, h1, if_pos rfl, join_cat f hf ps _ (fun q hq => h q (List.mem_cons_of_mem _ hq))]
  unfold catE
  rw [List.flatMap_cons, List.append_assoc]
theorem join_bad (f : Fm) : ∀ (ps : List PDU) (acc : List (BitVec 8)), (∃ p ∈ ps, ¬ (framed f = true ∧ valid p = true)) → joinE f acc ps = ([], 2)
 | [], _, h => by obtain ⟨p, hp, _⟩ := h; cases hp
 | p :: ps, acc, h => by
  by_cases hp : framed f = true ∧ valid p = true
  ·have h1 : encE p f = (enc p f, 0) := by unfold Pd.encE; rw [if_pos hp.1, if_pos hp.2]
   rw [joinE, h1, if_pos rfl]
   refine join_bad f ps _ ?_
   obtain ⟨q, hq, hn⟩ := h
   rcases List.mem_cons.1 hq with rfl | hq
   ·exact absurd hp hn
   ·exact ⟨q, hq, hn⟩
  ·have h1 : encE p f = ([], 2) := by
    unfold Pd.encE
    by_cases hf : framed f = true
    ·rw [if_pos hf, if_neg (fun h => hp ⟨hf, h⟩)]
    ·rw [if_neg hf]
   rw [joinE, h1, if_neg (by simp)]
theorem drain_m (M : List At) (hs : St w0 X (M ++ pR g s B c :: pO r B c s :: L) w) (hk : okR s 1000) {ps : List PDU} {e : Nat} (hr : drn 1000 s = (ps, e, s')) :
  Calls Try.prog 12 #[.pointer (some ⟨g, 0, none⟩)] w fun e' w' => ∃ ro A cA R T r' B' c', e' = .returned (.tuple #[.slice A ps.length cA, iv e]) ∧ Hid (PP T R ps) ∧ St w0 X (.own 14 ro A ps.length cA R.flatten :: (M ++ pR g s' B' c' :: pO r' B' c' s' :: (T ++ L))) w' := by
 refine (drain_st (hs.perm (mid2 M)) hk hr).mono ?_
 rintro e' w' ⟨ro, A, cA, R, T, r', B', c', h1, h2, h3⟩
 refine ⟨ro, A, cA, R, T, r', B', c', h1, h2, h3.perm (List.Perm.cons _ ?_)⟩
 refine List.Perm.trans ?_ (mid2 M).symm
 exact List.Perm.cons _ (List.Perm.cons _ (List.perm_append_comm_assoc T M L))
theorem rValidM_st (hs : St w0 X L w) (p : PDU) {EA DA : Option Addr} {en ec dn dc : Nat} (he : en = p.en.length) (hd : dn = p.da.length) {PC : List Value} (hP : PC = pc p.h EA en ec DA dn dc) :
  Calls Try.prog 15 #[.agg PC.toArray] w fun e w' => e = .returned (.bool (valid p)) ∧ St w0 X L w' := by
 rw [hP]; exact Pd.rValid_st hs p he hd rfl
set_option maxRecDepth 100000 in
set_option maxRecDepth 100000 in
set_option maxHeartbeats 4000000 in
theorem joins_st (hs : St w0 X L w) (f : Fm) {A : Option Addr} {R : List (List Value)} {ps : List PDU} {k ca : Nat} (hk : k = ps.length) (hA : Reads L A R.flatten) (hP : PP L R ps) (hkB : k ≤ 140737488351232) :
  Calls Try.prog 4 #[fv f, .slice A k ca] w fun e' w' => e' = .returned (.bool true) ∧ St w0 X L w' := by
 obtain ⟨F, hF⟩ : ∃ F, F = fl f := ⟨_, rfl⟩
 have FL := Lib.hid (show F.length = 3 by rw [hF]; rfl)
 have CK : Hid (∀ (M : List At) (w : World), St w0 X (M ++ L) w → Calls Try.prog 9 #[] w fun e' w' => e' = .returned (.bool true) ∧ St w0 X (M ++ L) w') := Lib.hid (fun M w hs => known_st hs)
 obtain ⟨b0, hb0⟩ : ∃ b, framed f = b := ⟨_, rfl⟩
 have CF : Hid (∀ (M : List At) (w : World), St w0 X M w → Calls Try.prog 14 #[.agg F.toArray] w fun e w' => e = .returned (.bool b0) ∧ St w0 X M w') := Lib.hid (fun M w hs => by rw [hF, ← Pd.fv_eq, ← hb0]; exact Pd.rFramed_st hs f)
 have HK := Lib.hid hk
 have HA := Lib.hid hA
 have HP := Lib.hid hP
 have HB0 := Lib.hid hb0
 have HF := Lib.hid hF
 rw [Pd.fv_eq, ← hF]
 clear hk hA hP hb0 hF
 by_cases h10 : 10 < k
 ·have d1 : decide (10 < (k : Int)) = true := by simp; omega
  clear h10
  go_enter Try.func4, Try.ntmps4
  go_wp2_with (first | ((first | with_reducible refine Se.ab hs ?_ | with_reducible refine Se.abc hs ?_); clear hs; (first | (generalize w.heap.size = g2; intro w hs))) | (go_at_call 9; refine Calls.mono (CK.out [_] _ hs) ?_; clear hs; rintro e w ⟨rfl, hs⟩))
  go_ret
  exact ⟨rfl, hs.drop⟩
 have d1 : decide (10 < (k : Int)) = false := by simp; omega
 have C1 : Hid (∀ (i : Nat) (hi : i < ps.length) (w : World), (∀ a ∈ L, a.holds w) → ∃ PC EA ec DA dc, Hid (PC = pc ps[i].h EA ps[i].en.length ec DA ps[i].da.length dc) ∧ Hid (Reads L EA (ps[i].en.map v8)) ∧ Hid (Reads L DA (ps[i].da.map v8)) ∧ ∃ g o, A = some ⟨g, o, none⟩ ∧ Hid (Reads L (some ⟨g, o + i * 14, none⟩) PC)) := Lib.hid (fun i hi w hw => by
  obtain ⟨PC, EA, ec, DA, dc, _, h2, h3, h4, h5⟩ := HP.out.row hi
  obtain ⟨g, o, hg, _, _⟩ := (HA.out w hw).cells (HP.out.ne hi)
  exact ⟨PC, EA, ec, DA, dc, Lib.hid h2, Lib.hid h3, Lib.hid h4, g, o, hg, Lib.hid (h5 g o (hg ▸ HA.out))⟩)
 go_enter Try.func4, Try.ntmps4
 go_wp2_with (first | ((with_reducible refine Se.isL (o := ⟨some 21, _, _, _, _, _⟩) ?_); (refine Se.toL rfl (Se.ldw (o := ⟨some 21, _, _, _, _, _⟩) hs rfl rfl ((Reads.blk 0 rfl)) ((by rw [FL.out]; kernel_rfl)) (by kernel_rfl) ?_))) | ((first | with_reducible refine Se.ab hs ?_ | with_reducible refine Se.abc hs ?_); clear hs; (first | (generalize w.heap.size = g2; intro w hs))) | (go_at_call 14; refine Calls.mono (CF.out _ _ hs) ?_; clear hs; rintro e w ⟨rfl, hs⟩))
 go_loopg [6, 7] k (fun gh s6 s7 wr => ∃ (i : Nat) (fi : Bool), gh = k - i ∧ i ≤ k ∧ s7 = .int .i64 (i : Int) ∧ s6 = .bool fi ∧ Hid (fi = (b0 && (ps.take i).all valid)) ∧ Hid (∀ p ∈ ps.take i, p.da.length ≤ 500 ∧ p.en.length ≤ 100) ∧ St w0 X (.blk g2 23 F :: L) wr)
 case atStart => exact ⟨0, b0, rfl, Nat.zero_le _, rfl, rfl, Lib.hid (by simp), Lib.hid (by simp), hs⟩
 case round =>
  clear hs
  rename World => w
  obtain ⟨i, fi, rfl, hi, rfl, rfl, HFI, HLE, hs⟩ := hrel
  by_cases hlt : i < k
  ·have hlt' : (i : Int) < (k : Int) := by omega
   have hil : i < ps.length := by have := HK.out; omega
   obtain ⟨PC, EA, ec, DA, dc, HPC, HE, HD, ga, oa, rfl, RP⟩ := C1.out i hil w (fun a ha => hs.hold a (by simp [ha]))
   have HTK := Lib.hid (show ps.take (i + 1) = ps.take i ++ [ps[i]] by rw [List.take_add_one, List.getElem?_eq_getElem hil]; rfl)
   obtain ⟨p, hp⟩ : ∃ p, ps[i] = p := ⟨_, rfl⟩
   rw [hp] at HPC HE HD HTK
   obtain ⟨en, hen⟩ : ∃ en, en = p.en.length := ⟨_, rfl⟩
   obtain ⟨dn, hdn⟩ : ∃ dn, dn = p.da.length := ⟨_, rfl⟩
   rw [← hen, ← hdn] at HPC
   have HEN := Lib.hid hen
   have HDN := Lib.hid hdn
   have PCL := Lib.hid (show PC.length = 14 by rw [HPC.out]; rfl)
   have C13 := Lib.hid (show Cell (.blk g2 23 F :: L) ga (oa + i * 14 + 13) (.slice DA dn dc) from (RP.out.cons _).cell 13 (by rw [HPC.out]; rfl))
   have C3 := Lib.hid (show Cell (.blk g2 23 F :: L) ga (oa + i * 14 + 3) (.slice EA en ec) from (RP.out.cons _).cell 3 (by rw [HPC.out]; rfl))
   clear hp hen hdn hil C1
   by_cases h5 : 500 < dn
   ·have d2 : decide (500 < (dn : Int)) = true := by simp; omega
    clear h5
    go_wp2_with (first | ((with_reducible refine Se.isL (o := ⟨some 33, _, _, _, _, _⟩) ?_); (refine Se.toL rfl (Se.ld (o := ⟨some 33, _, _, _, _, _⟩) hs rfl rfl (C13.out) (by kernel_rfl) ?_))) | (go_at_call 9; refine Calls.mono (CK.out [_] _ hs) ?_; clear hs; rintro e w ⟨rfl, hs⟩))
    go_ret
    exact ⟨rfl, hs.drop⟩
   have d2 : decide (500 < (dn : Int)) = false := by simp; omega
   by_cases h6 : 100 < en
   ·have d3 : decide (100 < (en : Int)) = true := by simp; omega
    clear h6
    go_wp2_with (first | ((with_reducible refine Se.isL (o := ⟨some 33, _, _, _, _, _⟩) ?_); (refine Se.toL rfl (Se.ld (o := ⟨some 33, _, _, _, _, _⟩) hs rfl rfl (C13.out) (by kernel_rfl) ?_))) | ((with_reducible refine Se.isL (o := ⟨some 41, _, _, _, _, _⟩) ?_); (refine Se.toL rfl (Se.ld (o := ⟨some 41, _, _, _, _, _⟩) hs rfl rfl (C3.out) (by kernel_rfl) ?_))) | (go_at_call 9; refine Calls.mono (CK.out [_] _ hs) ?_; clear hs; rintro e w ⟨rfl, hs⟩))
    go_ret
    exact ⟨rfl, hs.drop⟩
   have d3 : decide (100 < (en : Int)) = false := by simp; omega
   have HLE' : Hid (∀ q ∈ ps.take (i + 1), q.da.length ≤ 500 ∧ q.en.length ≤ 100) := Lib.hid (fun q hq => by
    rw [HTK.out] at hq
    rcases List.mem_append.1 hq with hq | hq
    ·exact HLE.out q hq
    ·obtain rfl : q = p := by simpa using hq
     have := HEN.out
     have := HDN.out
     omega)
   have CV : Hid (∀ (w : World), St w0 X (.blk g2 23 F :: L) w → Calls Try.prog 15 #[.agg PC.toArray] w fun e w' => e = .returned (.bool (valid p)) ∧ St w0 X (.blk g2 23 F :: L) w') := Lib.hid (fun w hs => rValidM_st hs p HEN.out HDN.out HPC.out)
   have HAL := Lib.hid (show (ps.take (i + 1)).all valid = ((ps.take i).all valid && valid p) by rw [HTK.out, List.all_append]; simp)
   clear h5 h6 HLE
   obtain ⟨vp, hvp⟩ : ∃ vp, vp = valid p := ⟨_, rfl⟩
   rw [← hvp] at CV HAL
   clear hvp
   cases fi with
   | false =>
    go_wp2_with (first | ((with_reducible refine Se.isL (o := ⟨some 33, _, _, _, _, _⟩) ?_); (refine Se.toL rfl (Se.ld (o := ⟨some 33, _, _, _, _, _⟩) hs rfl rfl (C13.out) (by kernel_rfl) ?_))) | ((with_reducible refine Se.isL (o := ⟨some 41, _, _, _, _, _⟩) ?_); (refine Se.toL rfl (Se.ld (o := ⟨some 41, _, _, _, _, _⟩) hs rfl rfl (C3.out) (by kernel_rfl) ?_))))
    go_roundg (k - (i + 1))
    case measure => omega
    case rel => exact ⟨i + 1, false, rfl, by omega, by go_num, rfl, Lib.hid (by rw [HAL.out, ← Bool.and_assoc, ← HFI.out]; rfl), HLE', hs⟩
   | true =>
    go_wp2_with (first | ((with_reducible refine Se.isL (o := ⟨some 33, _, _, _, _, _⟩) ?_); (refine Se.toL rfl (Se.ld (o := ⟨some 33, _, _, _, _, _⟩) hs rfl rfl (C13.out) (by kernel_rfl) ?_))) | ((with_reducible refine Se.isL (o := ⟨some 41, _, _, _, _, _⟩) ?_); (refine Se.toL rfl (Se.ld (o := ⟨some 41, _, _, _, _, _⟩) hs rfl rfl (C3.out) (by kernel_rfl) ?_))) | ((with_reducible refine Se.isL (o := ⟨some 51, _, _, _, _, _⟩) ?_); (refine Se.toL rfl (Se.ldw (o := ⟨some 51, _, _, _, _, _⟩) hs rfl rfl ((RP.out.cons _)) ((by rw [PCL.out]; kernel_rfl)) (by kernel_rfl) ?_))) | (go_at_call 15; refine Calls.mono (CV.out _ hs) ?_; clear hs; rintro e w ⟨rfl, hs⟩))
    go_roundg (k - (i + 1))
    case measure => omega
    case rel => exact ⟨i + 1, vp, rfl, by omega, by go_num, rfl, Lib.hid (by rw [HAL.out, ← Bool.and_assoc, ← HFI.out]; rfl), HLE', hs⟩
  ·obtain rfl : i = k := by omega
   have HLA := Lib.hid (show ∀ p ∈ ps, p.da.length ≤ 500 ∧ p.en.length ≤ 100 by have h := HLE.out; rw [HK.out, List.take_length] at h; exact h)
   have HFA := Lib.hid (show fi = (b0 && ps.all valid) by have h := HFI.out; rw [HK.out, List.take_length] at h; exact h)
   have hi10 : i ≤ 10 := by omega
   clear HLE HFI h10
   obtain ⟨⟨bs, e⟩, hj⟩ : ∃ x, joinE f [] ps = x := ⟨_, rfl⟩
   obtain ⟨m, hm⟩ : ∃ m, m = bs.length := ⟨_, rfl⟩
   have CJ : Hid (∀ (M : List At) (w : World), St w0 X (M ++ L) w → Calls Try.prog 16 #[.agg F.toArray, .slice A i ca] w fun e' w' => ∃ r B c, e' = .returned (.tuple #[.slice B m c, iv e]) ∧ m ≤ c ∧ St w0 X (.own 1 r B m c (bs.map v8) :: (M ++ L)) w') := Lib.hid (fun M w hs => by
    rw [HF.out, ← Pd.fv_eq]
    exact join_st hs f HK.out (HA.out.app M) (HP.out.mono (fun _ h => List.mem_append.2 (.inr h))) (fun p hp => by have := HLA.out p hp; omega) (by omega) hj hm)
   have HJ := Lib.hid hj
   have HM := Lib.hid hm
   clear hj hm
   cases fi with
   | false =>
    have hcase : (i = 0 ∧ m = 0 ∧ e = 0) ∨ (m = 0 ∧ e = 2) := by
     cases hps : ps with
     | nil =>
      left
      have h1 := HJ.out
      rw [hps] at h1
      simp only [joinE, Prod.mk.injEq] at h1
      have h2 := HM.out
      rw [← h1.1] at h2
      exact ⟨by rw [HK.out, hps]; rfl, by simpa using h2, h1.2.symm⟩
     | cons p0 pr =>
      right
      have hbad : ∃ p ∈ ps, ¬ (framed f = true ∧ valid p = true) := by
       apply Classical.byContradiction
       intro hno
       have hall : ∀ p ∈ ps, framed f = true ∧ valid p = true := fun p hp => Classical.byContradiction fun hn => hno ⟨p, hp, hn⟩
       have h1 := HFA.out
       rw [← HB0.out, (hall p0 (by rw [hps]; exact List.mem_cons_self)).1, List.all_eq_true.2 (fun p hp => (hall p hp).2)] at h1
       cases h1
      have h1 := HJ.out
      rw [join_bad f ps [] hbad] at h1
      simp only [Prod.mk.injEq] at h1
      have h2 := HM.out
      rw [← h1.1] at h2
      exact ⟨by simpa using h2, h1.2.symm⟩
    have HMZ := Lib.hid (show m = 0 by omega)
    rcases hcase with ⟨rfl, rfl, rfl⟩ | ⟨rfl, rfl⟩
    ·clear HK HM HMZ
     go_wp2_with (first | ((with_reducible refine Se.isL (o := ⟨some 55, _, _, _, _, _⟩) ?_); (refine Se.toL rfl (Se.ldw (o := ⟨some 55, _, _, _, _, _⟩) hs rfl rfl ((Reads.blk 0 rfl)) ((by rw [FL.out]; kernel_rfl)) (by kernel_rfl) ?_))) | (go_at_call 16; refine Calls.mono (CJ.out [_] _ hs) ?_; clear hs; rintro e w ⟨r, B, c, rfl, hc, hs⟩) | (go_at_call 9; refine Calls.mono (CK.out [_, _] _ hs) ?_; clear hs; rintro e w ⟨rfl, hs⟩))
     go_ret
     exact ⟨rfl, hs.drop.drop⟩
    ·clear HK HM HMZ
     go_wp2_with (first | ((with_reducible refine Se.isL (o := ⟨some 55, _, _, _, _, _⟩) ?_); (refine Se.toL rfl (Se.ldw (o := ⟨some 55, _, _, _, _, _⟩) hs rfl rfl ((Reads.blk 0 rfl)) ((by rw [FL.out]; kernel_rfl)) (by kernel_rfl) ?_))) | (go_at_call 16; refine Calls.mono (CJ.out [_] _ hs) ?_; clear hs; rintro e w ⟨r, B, c, rfl, hc, hs⟩) | (go_at_call 9; refine Calls.mono (CK.out [_, _] _ hs) ?_; clear hs; rintro e w ⟨rfl, hs⟩))
     go_ret
     exact ⟨rfl, hs.drop.drop⟩
   | true =>
    have hfv : framed f = true ∧ ∀ p ∈ ps, valid p = true := by
     have h1 := HFA.out.symm
     rw [Bool.and_eq_true] at h1
     exact ⟨HB0.out.trans h1.1, List.all_eq_true.1 h1.2⟩
    have h1 := HJ.out
    rw [join_cat f hfv.1 ps [] hfv.2, List.nil_append] at h1
    simp only [Prod.mk.injEq] at h1
    obtain ⟨h2, h3⟩ := h1
    subst h3
    have HBS := Lib.hid h2
    have HFV := Lib.hid hfv
    have hm7 : m ≤ 7640 := by
     have := catE_sz f hfv.1 ps (fun p hp => ⟨hfv.2 p hp, (HLA.out p hp).1⟩)
     rw [h2] at this
     have := HM.out
     have := HK.out
     omega
    have CN : Hid (∀ (M : List At) (w : World), St w0 X M w → Calls Try.prog 10 #[.agg F.toArray, .int .i64 1000] w fun e w' => ∃ g, e = .returned (.tuple #[.pointer (some ⟨g, 0, none⟩), iv 0]) ∧ St w0 X (pR g { f := f, mo := 1000 } none 0 :: pO none none 0 { f := f, mo := 1000 } :: M) w') := Lib.hid (fun M w hs => by rw [HF.out, ← Pd.fv_eq]; exact new_yes hs f 1000 (by unfold fits; rw [hfv.1]; rfl))
    have HAD : Hid (addE { f := f, mo := 1000 } bs = ({ f := f, mo := 1000, b := bs }, 0)) := Lib.hid (by
     unfold addE
     rw [if_neg (by simp), if_neg (by simp only [List.length_nil]; have := HM.out; omega)]
     rfl)
    have HDR : Hid (drn 1000 { f := f, mo := 1000, b := bs } = (ps, 9, { f := f, mo := 1000, nb := m, np := i })) := Lib.hid (by
     have h := drn_cat ps 1000 { f := f, mo := 1000, b := bs } rfl h2.symm hfv.1 (fun p hp => ⟨hfv.2 p hp, Nat.le_trans (enc_sz hfv.1 (hfv.2 p hp) (HLA.out p hp).1) (show 764 ≤ 1000 by decide)⟩) (by have := HK.out; omega)
     rw [h]
     dsimp only
     rw [h2, ← HM.out, ← HK.out]
     simp)
    have HOK : Hid (okR { f := f, mo := 1000, b := bs } 1000) := Lib.hid ⟨by simp, rfl, by dsimp only; have := HM.out; omega, by dsimp only; have := HM.out; omega, by dsimp only; have := HM.out; omega, by dsimp only; omega⟩
    clear h2 hfv HJ HB0 CF HFA
    go_upto_region 14 with (first | ((with_reducible refine Se.isL (o := ⟨some 55, _, _, _, _, _⟩) ?_); (refine Se.toL rfl (Se.ldw (o := ⟨some 55, _, _, _, _, _⟩) hs rfl rfl ((Reads.blk 0 rfl)) ((by rw [FL.out]; kernel_rfl)) (by kernel_rfl) ?_))) | (go_at_call 16; refine Calls.mono (CJ.out [_] _ hs) ?_; clear hs; rintro e w ⟨r, B, c, rfl, hc, hs⟩))
    simp only [List.cons_append, List.nil_append] at hs
    replace hs := hs.nil_own 1 none
    clear CJ
    go_wp2_with fail
    go_loopg [5, 10] i (fun gh s5 s10 wr => ∃ (j mw : Nat) (rw' : Option Nat) (AW : Option Addr) (cw : Nat), gh = i - j ∧ j ≤ i ∧ s10 = .int .i64 (j : Int) ∧ s5 = .slice AW mw cw ∧ Hid (mw = (catE f (ps.take j)).length) ∧ mw ≤ j * 764 ∧ St w0 X (.own 1 rw' AW mw cw ((catE f (ps.take j)).map v8) :: .own 1 r B m c (bs.map v8) :: .blk g2 23 F :: L) wr)
    case atStart => exact ⟨0, 0, none, none, 0, rfl, Nat.zero_le _, rfl, rfl, Lib.hid (by simp [catE]), Nat.zero_le _, by simpa [catE] using hs⟩
    case round =>
     clear hs
     rename World => w
     obtain ⟨j, mw, rw', AW, cw, rfl, hj, rfl, rfl, HMW, hmw, hs⟩ := hrel
     by_cases hjt : j < i
     ·have hjt' : (j : Int) < (i : Int) := by omega
      have hil : j < ps.length := by have := HK.out; omega
      obtain ⟨PC, EA, ec, DA, dc, HPC, HE, HD, ga, oa, rfl, RP⟩ := C1.out j hil w (fun a ha => hs.hold a (by simp [ha]))
      have HCS := Lib.hid (catE_snoc f ps j hil)
      have HES := Lib.hid (enc_sz HFV.out.1 (HFV.out.2 ps[j] (List.getElem_mem hil)) (HLA.out ps[j] (List.getElem_mem hil)).1)
      have HVP := Lib.hid (HFV.out.2 ps[j] (List.getElem_mem hil))
      obtain ⟨p, hp⟩ : ∃ p, ps[j] = p := ⟨_, rfl⟩
      rw [hp] at HPC HE HD HCS HES HVP
      have PCL := Lib.hid (show PC.length = 14 by rw [HPC.out]; rfl)
      obtain ⟨q, hq⟩ : ∃ q, q = (enc p f).length := ⟨_, rfl⟩
      have hq7 : q ≤ 764 := by rw [hq]; exact HES.out
      have HQ := Lib.hid hq
      have CE : Hid (∀ (M : List At) (w : World), St w0 X (M ++ L) w → Calls Try.prog 17 #[.agg PC.toArray, .agg F.toArray] w fun e' w' => ∃ r B c, e' = .returned (.slice B q c) ∧ St w0 X (.own 1 r B q c ((enc p f).map v8) :: (M ++ L)) w') := Lib.hid (fun M w hs => by
       rw [HPC.out, HF.out, ← Pd.fv_eq]
       exact Pd.rEncode_st hs p f (HE.out.app M) (HD.out.app M) rfl rfl HFV.out.1 HVP.out HQ.out)
      have hil2 := Lib.hid hil
      clear hp hq hil C1 HE HD HES
      go_upto_region 17 with (fail)
      refine Ch.region' 9 (fun wx => Rd wx (some ⟨ga, oa + j * 14, none⟩) PC ∧ Blk wx g2 F 23) (fun | 6 => true | 7 => true | _ => false) (by kernel_rfl) (by decide +kernel) (⟨RP.out _ (fun a ha => hs.drew.hold a (by simp [ha])), hs.drew.hold (.blk g2 23 F) (by simp)⟩) ?_
      replace hs := hs.drew
      generalize w.drew = w at hs ⊢
      change Ch.CW _ _ _ _ _ [0, 1, 2, 3, 4, 5, 6, 7, 8] _ _
      iterate 6 ((first | (refine Ch.pure (v := ?_) (by rfl) (by rfl) (by rfl) (fun wx hS => ?_) ?_; rotate_left; (focus (go_simp; (first | done | with_reducible rfl)))) | refine Ch.pure (v := _) (by rfl) (by rfl) (by rfl) (fun wx hS => Se.xla rfl rfl hS.1 (by rw [PCL.out] <;> kernel_rfl) (by kernel_rfl)) ?_ | refine Ch.pure (v := _) (by rfl) (by rfl) (by rfl) (fun wx hS => Se.xla rfl rfl (Li.Rd.of_blk hS.2) (by rw [FL.out] <;> kernel_rfl) (by kernel_rfl)) ?_); (try simp only [Act.put, List.setIfInBounds_toArray, List.set_cons_zero, List.set_cons_succ]))
      refine Ch.noise (by rfl) (by rfl) (by rfl) ?_
      refine Se.gcall (f := 17) (args := #[.agg PC.toArray, .agg F.toArray]) ?_ ?_
      ·go_simp
      refine Calls.mono (CE.out [_, _, _] _ hs) ?_
      clear hs
      rintro e w ⟨r3, B3, c3, rfl, hs⟩
      refine ⟨_, rfl, ⟨RP.out _ (fun a ha => hs.hold a (by simp [ha])), hs.hold (.blk g2 23 F) (by simp)⟩, ?_⟩
      (try simp only [Act.put, List.setIfInBounds_toArray, List.set_cons_zero, List.set_cons_succ])
      (try simp only [List.cons_append, List.nil_append] at hs)
      refine Ch.noise (by rfl) (by rfl) (by rfl) (Se.ap 1 hs rfl rfl rfl rfl (Reads.own 0 rfl) Try.underlying24 Pd.u8i3 rfl (by decide) (v8_one _) (by rw [List.length_map, HQ.out, Nat.mul_one]) (by omega) (by omega) ?_)
      clear hs
      rintro w r4 B4 c4 hs
      simp only [List.cons_append, List.nil_append, List.set_cons_zero, List.set_cons_succ] at hs
      refine ⟨⟨RP.out _ (fun a ha => hs.hold a (by simp [ha])), hs.hold (.blk g2 23 F) (by simp)⟩, ?_⟩
      (try simp only [Act.put, List.setIfInBounds_toArray, List.set_cons_zero, List.set_cons_succ])
      iterate 1 ((first | (refine Ch.pure (v := ?_) (by rfl) (by rfl) (by rfl) (fun wx hS => ?_) ?_; rotate_left; (focus (go_simp; (first | done | with_reducible rfl))))); (try simp only [Act.put, List.setIfInBounds_toArray, List.set_cons_zero, List.set_cons_succ]))
      refine Ch.done ?_
      try simp only [List.drop_succ_cons, List.drop_zero]
      go_wp2_with fail
      go_roundg (i - (j + 1))
      case measure => omega
      case rel =>
       refine ⟨j + 1, mw + q, r4, B4, c4, rfl, by omega, by go_num, rfl, Lib.hid (by rw [HCS.out, List.length_append, ← HMW.out, ← HQ.out]), by omega, ?_⟩
       rw [HCS.out, List.map_append]
       exact hs.drop
     ·obtain rfl : j = i := by omega
      have HW := Lib.hid (show catE f (ps.take j) = bs by rw [HK.out, List.take_length]; exact HBS.out)
      rw [HW.out] at hs
      obtain rfl : mw = m := by rw [HMW.out, HW.out, HM.out]
      obtain ⟨SS0, hSS⟩ : ∃ SS0, SS0 = strB bs := ⟨_, rfl⟩
      have HSS := Lib.hid hSS
      clear hSS HMW C1
      go_upto_region 19 with (first | ((with_reducible refine Se.isL (o := ⟨some 92, _, _, _, _, _⟩) ?_); (refine Se.toL rfl (Se.ldw (o := ⟨some 92, _, _, _, _, _⟩) hs rfl rfl ((Reads.blk 2 rfl)) ((by rw [FL.out]; kernel_rfl)) (by kernel_rfl) ?_))) | (go_at_call 10; refine Calls.mono (CN.out _ _ hs) ?_; clear hs; rintro e w ⟨g, rfl, hs⟩))
      have c1 : (convert 24 9 (.slice B mw c)).run Try.prog w = .ok (.string SS0) w := by rw [HSS.out]; exact Pd.run_str w Try.underlying24 Try.underlying5 Try.underlying9 HM.out ((Reads.own 3 rfl) w hs.hold)
      have c2 : (convert 24 9 (.slice AW mw cw)).run Try.prog w = .ok (.string SS0) w := by rw [HSS.out]; exact Pd.run_str w Try.underlying24 Try.underlying5 Try.underlying9 HM.out ((Reads.own 2 rfl) w hs.hold)
      go_upto_region 21 with (first | (go_at_call 11; refine Calls.mono (add_m [] hs (by simp) bs HM.out (Reads.own 1 rfl) (by simp) (by omega) HAD.out) ?_; clear hs; rintro e w ⟨rx, Bx, cx, rfl, hs⟩))
      clear c1 c2
      go_upto_region 23 with (first | (go_at_call 12; refine Calls.mono (drain_m [] hs HOK.out HDR.out) ?_; clear hs; rintro e w ⟨rd, AD, cD, RDD, TD, rx', Bx', cx', rfl, HPD, hs⟩) | (go_at_call 18; refine Calls.mono (consumed_m [_] hs (a := mw) (b := j) rfl rfl) ?_; clear hs; rintro e w ⟨rfl, hs⟩))
      (try simp only [List.cons_append, List.nil_append] at hs)
      rw [← HK.out] at hs
      rw [← HK.out]
      obtain ⟨LL, hLL⟩ : ∃ LL, LL = TD ++ .own 1 rw' AW mw cw (bs.map v8) :: .own 1 r B mw c (bs.map v8) :: .blk g2 23 F :: L := ⟨_, rfl⟩
      have CSM : Hid (∀ (w : World), St w0 X (.own 14 rd AD j cD RDD.flatten :: pR g { f := f, mo := 1000, nb := mw, np := j } Bx' cx' :: pO rx' Bx' cx' { f := f, mo := 1000, nb := mw, np := j } :: LL) w → Calls Try.prog 13 #[.slice AD j cD, .slice A j ca] w fun e w' => e = .returned (.bool true) ∧ St w0 X L w') := Lib.hid (fun w hs => by
       rw [hLL] at hs
       refine (same_st hs HK.out (Reads.own 0 rfl) (HPD.out.mono (fun a h => by simp [h])) (HA.out.mono (fun a h => by simp [h])) (HP.out.mono (fun a h => by simp [h])) (by omega)).mono ?_
       rintro e w' ⟨h1, h2⟩
       exact ⟨h1, (h2.drop.drop.drop.sub (List.sublist_append_right _ _)).drop.drop.drop⟩)
      rw [← hLL] at hs
      go_wp2_with (first | (go_at_call 13; refine Calls.mono (CSM.out _ hs) ?_; clear hs; rintro e w ⟨rfl, hs⟩) | (go_at_call 9; refine Calls.mono (CK.out [] _ hs) ?_; clear hs; rintro e w ⟨rfl, hs⟩))
      go_ret
      exact ⟨rfl, hs⟩
theorem joins_any (f : Fm) (W : World) {A : Option Addr} {R : List (List Value)} {ps : List PDU} {k ca : Nat} {qs : List (Option Addr × List Value)} (hk : k = ps.length) (hkB : k ≤ reachBytes) (hA : Rd W A R.flatten) (hq : ∀ q ∈ qs, Rd W q.1 q.2) (hP : PP (rds qs) R ps) :
  Calls Try.prog 4 #[fv f, .slice A k ca] W fun e w' => e = .returned (.bool true) ∧ Below W.heap.size W w' := by
 have h0 : St W [] (rds ((A, R.flatten) :: qs)) W := start_rds (by
  intro q h
  rcases List.mem_cons.1 h with rfl | h
  ·exact hA
  ·exact hq q h)
 exact (joins_st h0 f hk (rds_mem List.mem_cons_self) (hP.mono (rds_sub (fun q h => List.mem_cons_of_mem _ h))) hkB).mono fun e w' h => ⟨h.1, h.2.below⟩
end Sr
end Go.Proofs.Ytdngfcmakjlamaa

