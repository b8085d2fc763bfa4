/- Layer 38: the reference's responses. No condition but Go's own limits. -/
import Derived.Test.YtakdoijemopejaaGreatAuR1
import Derived.Deep.AppendSrc
set_option linter.unusedSimpArgs false
set_option linter.unusedVariables false
namespace Go.Proofs.YtakdoijemopejaaGreat
open Go Go.RowKit
namespace Se
open Li (Rd Blk v8 Fr)
variable {P : Program} {w0 w : World} {X : List Nat} {L : List At} {o : Oper} {a : Act} {G : Value → World → Prop}
theorem byteCells_sB (s : ByteArray) : byteCells s = (Au.sB s).map v8 := by
 unfold byteCells Au.sB
 rw [List.map_map]
 congr 1
theorem run_append_str {t tx ty e : TypeId} {r : Option Nat} {A : Option Addr} {n c : Nat} {xs : List Value} {z : Value} (ht : P.underlying t = some (.slice e)) (htx : P.underlying tx = some .string) (hinfo : (P.info? e).map (fun i => (i.zero, i.size, i.bytes)) = some (some z, 1, 1)) (hz : z.cells.size = 1)
  (ho : Ow w 1 r A n c xs) (hn : 0 < n) (s : ByteArray) (hle : n + s.size ≤ 70368744177664) :
  ∃ (A' : Option Addr) (c' : Nat) (r' : Option Nat) (w' : World), (Builtin.append_ #[t, tx] ty #[.slice A n c, .string s]).run P w = .ok (.slice A' (n + s.size) c') w' ∧ Ow w' 1 r' A' (n + s.size) c' (xs ++ byteCells s) ∧ w.grownBy w' r ∧ (r' = r ∨ r' = some w.heap.size) := by
 obtain ⟨hxl, hnc, hcase⟩ := ho
 obtain ⟨i, hi⟩ : ∃ i, P.info? e = some i := by
  cases h : P.info? e with
  | none => simp [h] at hinfo
  | some i => exact ⟨i, rfl⟩
 have hi3 : (i.zero, i.size, i.bytes) = (some z, 1, 1) := by rw [hi] at hinfo; simpa using hinfo
 simp only [Prod.mk.injEq] at hi3
 obtain ⟨hz1, hs1, hby⟩ := hi3
 have hsrc := Src.ofString (P := P) w htx s
 rw [← hs1] at hsrc
 have hbl := byteCells_length s
 rcases hcase with ⟨rfl, rfl⟩ | ⟨g, off, l, t', rfl, rfl, hb, hl, hmx, hx⟩
 ·omega
 ·have hge := grownCap_ge w (n + s.size) c e
  by_cases hroom : n + s.size ≤ c
  ·have hr := run_append_room_src (P := P) w t tx ty e i ht hi g off n c (.string s) s.size (byteCells s) hsrc hroom
    (fun j hj => by rw [hbl] at hj; rw [hb.cell, hs1]; simp; omega) (fun j hj => hb.frozen _)
   rw [hs1] at hr
   refine ⟨_, _, some g, _, hr, ⟨by rw [List.length_append, hxl, hbl]; omega, hroom, .inr ⟨g, off, _, t', rfl, rfl, hb.setCells (byteCells s) (off + n * 1) (by omega), ?_, hmx, ?_⟩⟩, ⟨?_, ?_, ?_, ?_, ?_⟩, .inl rfl⟩
   ·simp only [List.length_append, List.length_take, List.length_drop]; omega
   ·have e1 : (l.take (off + n * 1) ++ byteCells s ++ l.drop (off + n * 1 + (byteCells s).length)).drop off = xs ++ byteCells s ++ l.drop (off + n * 1 + (byteCells s).length) := by
     rw [List.append_assoc, List.drop_append_of_le_length (by rw [List.length_take]; omega), List.drop_take, Nat.add_sub_cancel_left, hx, List.append_assoc]
    rw [e1, show (n + s.size) * 1 = (xs ++ byteCells s).length by rw [List.length_append, hxl, hbl]; omega]
    exact List.take_left
   ·exact (Li.below_setCells _ _ w g (Below.refl 0 w) (Nat.zero_le _)).os
   ·exact (Li.below_setCells _ _ w g (Below.refl 0 w) (Nat.zero_le _)).tape
   ·exact (Li.below_setCells _ _ w g (Below.refl 0 w) (Nat.zero_le _)).output
   ·rw [Li.size_setCells]; exact Nat.le_refl _
   ·intro k _ hk
    exact Li.heap_setCells_other _ _ w g k (fun h => hk (by rw [h]))
  ·have hcm := grownCap_le_maxLen w (n + s.size) c e (by unfold maxLen; omega)
   have hold : (Builtin.firstCells i.size n (.slice (some ⟨g, off, none⟩) n c)).run P w.drew = .ok xs.toArray w.drew := by
    refine run_firstCells_some w.drew i.size n ⟨g, off, none⟩ n c xs (by rw [hs1, hxl]) (fun j u hu => ?_)
    rw [Addr.add_lit]
    show w.cell? _ = _
    rw [hb.cell, ← hu, ← hx, List.getElem?_take_of_lt (by have := (List.getElem?_eq_some_iff.1 hu).1; omega), List.getElem?_drop]
   have hr := run_append_grow_src (P := P) w t tx ty e i z ht hi hz1 (some ⟨g, off, none⟩) n c xs hold (.string s) s.size (byteCells s) hsrc (by omega) (by omega) (growslice_fits (by omega) (by rw [hby]; omega))
   obtain ⟨cs, hcs⟩ : ∃ cs, cs = (xs ++ byteCells s).toArray ++ Builtin.zeroCells z.cells (grownCap w (n + s.size) c e - (n + s.size)) := ⟨_, rfl⟩
   rw [← hcs] at hr
   refine ⟨_, _, some w.heap.size, _, hr, ⟨by rw [List.length_append, hxl, hbl]; omega, hge, .inr ⟨w.heap.size, 0, cs.toList, e, rfl, rfl, Blk.new w.drew cs.toList e, ?_, hcm, ?_⟩⟩, ⟨rfl, rfl, rfl, by simp, fun k hk _ => Below.heap_alloc w.drew _ k hk⟩, .inr rfl⟩
   ·rw [hcs]; simp only [Array.length_toList, Array.size_append, List.size_toArray, size_zeroCells, List.length_append, hz, hxl, hbl]; omega
   ·rw [List.drop_zero, show (n + s.size) * 1 = (xs ++ byteCells s).length by rw [List.length_append, hxl, hbl]; omega, hcs, Array.toList_append]
    exact List.take_left
/-- A string's bytes behind a slice of one's own. -/
theorem aps (k : Nat) (hs : St w0 X L w) {x y : Operand} {t tx e : TypeId} (ho : o.op = .call { callee := .builtin .append, args := #[x, y], argTypes := #[t, tx] })
  {r : Option Nat} {A : Option Addr} {n c : Nat} {s : ByteArray} (hx : a.eval x = .slice A n c) (hy : a.eval y = .string s) {xs : List Value} (hk : L[k]? = some (.own 1 r A n c xs))
  {z : Value} (ht : P.underlying t = some (.slice e)) (htx : P.underlying tx = some .string) (hinfo : (P.info? e).map (fun i => (i.zero, i.size, i.bytes)) = some (some z, 1, 1)) (hz : z.cells.size = 1) (hn : 0 < n) (hle : n + s.size ≤ 70368744177664)
  (h : ∀ (w' : World) (r' : Option Nat) (A' : Option Addr) (c' : Nat), St w0 X (L.set k (.own 1 r' A' (n + s.size) c' (xs ++ (Au.sB s).map v8))) w' → G (.slice A' (n + s.size) c') w') : Hv.Gives P o a w G := by
 obtain ⟨A', c', r', w', hr, h2, h3, h4⟩ := run_append_str (P := P) (ty := o.type) ht htx hinfo hz (hs.hold _ (List.mem_of_getElem? hk)) hn s hle
 rw [byteCells_sB] at h2
 unfold Hv.Gives execOp
 simp only [ho, resolve, invoke, builtin, Sem.run_bind, Sem.run_pure, Result.andThen_ok, List.map_toArray, List.map_cons, List.map_nil, hx, hy, hr]
 exact h w' r' A' c' (St.appendAt k hk hs h2 h3 h4)
end Se
namespace Au
open Se (St At Reads Cell)
open Li (v8 v8_one Rd Blk Fr)
open Bv (n8 n16 n32 n64)
variable {w0 w : World} {X : List Nat} {L M : List At}
attribute [local irreducible] Calls
theorem u8i2 : (Tryz.prog.info? 5).map (fun i => (i.zero, i.size)) = some (some (.int .u8 0), 1) := by kernel_rfl
theorem len_cells (s : ByteArray) (h : s.size ≤ 240) : [Value.int .u8 ((s.size : Int) % 256), .int .u8 ((s.size : Int) / 256)] = (putL (BitVec.ofNat 64 s.size) 2).map v8 := by
 generalize s.size = n at h
 have e : (putL (BitVec.ofNat 64 n) 2).map v8 = [Value.int .u8 (n8 ((BitVec.ofNat 64 n >>> 0).setWidth 8)), .int .u8 (n8 ((BitVec.ofNat 64 n >>> 8).setWidth 8))] := rfl
 rw [e]
 simp only [b_at, BitVec.toNat_ofNat]
 simp only [List.cons.injEq, Value.int.injEq, true_and, and_true]
 refine ⟨?_, ?_⟩ <;> omega
set_option maxRecDepth 100000 in
set_option maxHeartbeats 4000000 in
theorem rresp_st (hs : St w0 X L w) (p : Pn) (A : Option Addr) (c : Nat) (nonce : Bs) (q : BitVec 16) (s : BitVec 32) (b : Bool) (hr : Reads L A (p.sec.map v8)) (hk : p.sec.length ≤ 1000) (hn : nonce.length = 32) (h1 : p.hs.size ≤ 240) (h2 : p.sb.size ≤ 240) :
  Calls Tryz.prog 24 #[.agg (pcl p A c).toArray, .agg (nonce.map v8).toArray, .int .u32 (n32 s), .int .u16 (n16 q), .bool b] w fun e w' => e = .returned (.agg ((resp p.py nonce ⟨0#8, 0#8, q, s⟩ (if b then 67#8 else 72#8)).map v8).toArray) ∧ St w0 X L w' := by
 obtain ⟨PL, hPL⟩ : ∃ PL, PL = pcl p A c := ⟨_, rfl⟩
 obtain ⟨NV, hNV⟩ : ∃ NV, NV = nonce.map v8 := ⟨_, rfl⟩
 obtain ⟨role, hrole⟩ : ∃ role : BitVec 8, role = if b then 67#8 else 72#8 := ⟨_, rfl⟩
 obtain ⟨R, hR⟩ : ∃ R, R = (resp p.py nonce ⟨0#8, 0#8, q, s⟩ role).map v8 := ⟨_, rfl⟩
 obtain ⟨H, hH⟩ : ∃ H, H = (headL ⟨0#8, 0#8, q, s⟩).map v8 := ⟨_, rfl⟩
 obtain ⟨x, hx⟩ : ∃ x, x = ((q.setWidth 64 >>> 0).setWidth 8 : BitVec 8) := ⟨_, rfl⟩
 obtain ⟨y, hy⟩ : ∃ y, y = ((q.setWidth 64 >>> 8).setWidth 8 : BitVec 8) := ⟨_, rfl⟩
 have HRo := Lib.hid hrole
 have HLn := Lib.hid (show H.length = 8 by rw [hH, List.length_map, headL_len])
 have H2 := Lib.hid (show H[2]? = some (.int .u8 (n8 x)) by rw [hH, hx]; rfl)
 have H3 := Lib.hid (show H[3]? = some (.int .u8 (n8 y)) by rw [hH, hy]; rfl)
 have HD := Lib.hid (show H.drop 4 = (putL (s.setWidth 64) 4).map v8 by rw [hH]; rfl)
 have H1V := Lib.hid (show ∀ v ∈ H, v.oneCell' = true by rw [hH]; exact v8_one _)
 have HXY := Lib.hid (show [Value.int .u8 (n8 x), .int .u8 (n8 y)] = (putL (q.setWidth 64) 2).map v8 by rw [hx, hy]; rfl)
 have CHd : Hid (∀ (L' : List At) (w : World), St w0 X L' w → Calls Tryz.prog 30 #[.int .i64 0, .int .i64 0, .int .u16 (n16 q), .int .u32 (n32 s)] w fun e w' => ∃ r A c, e = .returned (.slice A 8 c) ∧ St w0 X (.own 1 r A 8 c H :: L') w') := Lib.hid (fun L' w hs => by rw [hH]; exact rhead_st hs ⟨0#8, 0#8, q, s⟩)
 have P0 := Lib.hid (show PL[0]? = some (.slice A p.sec.length c) by rw [hPL]; rfl)
 have P1 := Lib.hid (show PL[1]? = some (.string p.hs) by rw [hPL]; rfl)
 have P2 := Lib.hid (show PL[2]? = some (.string p.sb) by rw [hPL]; rfl)
 have NL := Lib.hid (show NV.length = 32 by rw [hNV]; simpa using hn)
 have NO := Lib.hid (show ∀ v ∈ NV, v.oneCell' = true by rw [hNV]; exact v8_one _)
 have SR := Lib.hid (show R = (Sha.hmacL p.sec (respM p.py nonce ⟨0#8, 0#8, q, s⟩ role)).map v8 by rw [hR]; rfl)
 have SM := Lib.hid (show NV ++ H.drop 4 ++ [.int .u8 (n8 x), .int .u8 (n8 y)] ++ [.int .u8 (n8 role)] ++ [.int .u8 ((p.hs.size : Int) % 256), .int .u8 ((p.hs.size : Int) / 256)] ++ (sB p.hs).map v8 ++ [.int .u8 ((p.sb.size : Int) % 256), .int .u8 ((p.sb.size : Int) / 256)] ++ (sB p.sb).map v8 = (respM p.py nonce ⟨0#8, 0#8, q, s⟩ role).map v8 by
  rw [len_cells _ h1, len_cells _ h2, HD.out, HXY.out, hNV]
  unfold respM
  have e1 : (putL (role.setWidth 64) 1).map v8 = [.int .u8 (n8 role)] := by
   have e0 : (putL (role.setWidth 64) 1).map v8 = [Value.int .u8 (n8 ((role.setWidth 64 >>> 0).setWidth 8))] := rfl
   rw [e0]; congr 3; apply BitVec.eq_of_toNat_eq; simp
  simp only [List.map_append, e1, List.append_assoc, sB_len, List.cons_append, List.nil_append])
 have ML := Lib.hid (show (respM p.py nonce ⟨0#8, 0#8, q, s⟩ role).length = 43 + p.hs.size + p.sb.size by unfold respM; simp [putL_length, sB_len, hn]; omega)
 have RL := Lib.hid (show R.length = 32 by rw [SR.out]; simp [Sha.hmacL, Sha.shaL_length])
 have RO := Lib.hid (show ∀ v ∈ R, v.oneCell' = true by rw [SR.out]; exact v8_one _)
 obtain ⟨Z, hZ⟩ : ∃ Z, Z = z32.map v8 := ⟨_, rfl⟩
 have aJ := Lib.hid a32J
 have ZL := Lib.hid (show Z.length = 32 by rw [hZ]; rfl)
 rw [← hZ] at aJ
 have hk := Lib.hid hk
 have h1 := Lib.hid h1
 have h2 := Lib.hid h2
 have hr0 := Lib.hid hr
 rw [← hPL, ← hNV, ← hrole, ← hR]
 clear hPL hNV hR hZ hH hx hy hn hr hrole
 go_enter Tryz.func24, Tryz.ntmps24
 go_upto_region 1 with (first | ((with_reducible refine Se.isL (o := ⟨some 10, _, _, _, _, _⟩) ?_); (refine Se.toL rfl (Se.al (o := ⟨some 10, _, _, _, _, _⟩) hs rfl (aJ.out) ?_); clear hs; rintro w g10 - hs)) | ((first | with_reducible refine Se.ab hs ?_ | with_reducible refine Se.abc hs ?_); clear hs; (first | ((fail_if_success (have _q := gp)); generalize w.heap.size = gp; intro w hs) | (generalize w.heap.size = gn; intro w hs))))
 go_upto_region 2 with (first | (go_at_call 30; refine Calls.mono (CHd.out _ _ hs) ?_; clear hs; rintro e w ⟨rh, Ah, ch, rfl, hs⟩))
 clear CHd
 replace hs := hs.nil_own 1 none
 go_upto_region 3 with (first | ((with_reducible refine Se.isL (o := ⟨some 17, _, _, _, _, _⟩) ?_); (refine Se.toL rfl (Se.ap (o := ⟨some 17, _, _, _, _, _⟩) 0 hs rfl rfl rfl rfl ((Reads.blk 3 rfl)) Tryz.underlying22 u8i3 rfl (by decide) (NO.out) ((by rw [NL.out])) ((by omega)) ((by omega)) ?_); clear hs; rintro w r1 A1 c1 hs; try simp only [List.cons_append, List.nil_append, List.set_cons_zero] at hs)))
 simp only [Nat.zero_add, List.nil_append] at hs
 obtain ⟨gh, oh, rfl, rfl⟩ := hs.own_at 1 rfl (by omega)
 have hch : 8 ≤ ch := by
  have := hs.hold (.own 1 (some gh) (some ⟨gh, oh, none⟩) 8 ch H) (by simp)
  exact this.2.1
 have hci : (8 : Int) ≤ (ch : Int) := by omega
 have hcn : ch ≠ 4 := by omega
 have hc4 : ¬ (ch < 4) := by omega
 have hc8 : ¬ (ch < 8) := by omega
 have H1D := Lib.hid (show ∀ v ∈ H.drop 4, v.oneCell' = true from fun v h => H1V.out v (List.mem_of_mem_drop h))
 have HDL := Lib.hid (show (H.drop 4).length = 4 by rw [List.length_drop, HLn.out])
 obtain ⟨D, hD⟩ : ∃ D, D = H.drop 4 := ⟨_, rfl⟩
 have RD : Hid (∀ (a : At) (L' : List At), Reads (a :: .own 1 (some gh) (some ⟨gh, oh, none⟩) 8 ch H :: L') (some ⟨gh, oh + 4, none⟩) D) := Lib.hid (fun a L' => by rw [hD]; exact (Reads.own 1 rfl).at 4)
 rw [← hD] at H1D HDL SM
 clear hD
 go_upto_region 4 with (first | ((with_reducible refine Se.isL (o := ⟨some 21, _, _, _, _, _⟩) ?_); (refine Se.toL rfl (Se.ap (o := ⟨some 21, _, _, _, _, _⟩) 0 hs rfl rfl rfl rfl ((RD.out _ _)) Tryz.underlying22 u8i3 rfl (by decide) (H1D.out) ((by rw [HDL.out])) ((by omega)) ((by omega)) ?_); clear hs; rintro w r2 A2 c2 hs; try simp only [List.cons_append, List.nil_append, List.set_cons_zero] at hs)))
 clear RD hci hcn hc4 hc8 hch
 have C2 : Hid (∀ (a : At) (L' : List At), Cell (a :: .own 1 (some gh) (some ⟨gh, oh, none⟩) 8 ch H :: L') gh (oh + 2) (.int .u8 (n8 x))) := Lib.hid (fun a L' => (Reads.own 1 rfl).cell 2 H2.out)
 have C3 : Hid (∀ (a : At) (L' : List At), Cell (a :: .own 1 (some gh) (some ⟨gh, oh, none⟩) 8 ch H :: L') gh (oh + 3) (.int .u8 (n8 y))) := Lib.hid (fun a L' => (Reads.own 1 rfl).cell 3 H3.out)
 refine Ch.region' 10 (fun wx => wx.cell? ⟨gh, oh + 2, none⟩ = some (.int .u8 (n8 x)) ∧ wx.cell? ⟨gh, oh + 3, none⟩ = some (.int .u8 (n8 y))) (fun | 7 => true | 8 => true | _ => false) (by kernel_rfl) (by decide +kernel) (⟨C2.out _ _ _ hs.drew.hold, C3.out _ _ _ hs.drew.hold⟩) ?_
 replace hs := hs.drew
 generalize w.drew = w at hs ⊢
 change Ch.CW _ _ _ _ _ [0, 1, 2, 3, 4, 5, 6, 7, 8, 9] _ _
 iterate 7 ((first | (refine Ch.pure (v := ?_) (by rfl) (by rfl) (by rfl) (fun wx hS => ?_) ?_; rotate_left; (focus (go_simp; (first | done | with_reducible rfl)))) | refine Ch.pure (v := _) (by rfl) (by rfl) (by rfl) (fun wx hS => Se.xl rfl rfl hS.1 (by decide +kernel)) ?_ | refine Ch.pure (v := _) (by rfl) (by rfl) (by rfl) (fun wx hS => Se.xl rfl rfl hS.2 (by decide +kernel)) ?_); (try simp only [Act.put, List.setIfInBounds_toArray, List.set_cons_zero, List.set_cons_succ]))
 refine Ch.noise (by rfl) (by rfl) (by rfl) (Se.bsv hs rfl Tryz.underlying22 u8i2 rfl [.int .u8 (n8 x), .int .u8 (n8 y)] (by rfl) (by rfl) (by decide) (by decide) (by simp [Value.oneCell']) ?_)
 clear hs
 rintro w g29 - hs
 refine ⟨⟨(Reads.own 2 rfl).cell 2 H2.out _ hs.hold, (Reads.own 2 rfl).cell 3 H3.out _ hs.hold⟩, ?_⟩
 (try simp only [Act.put, List.setIfInBounds_toArray, List.set_cons_zero, List.set_cons_succ])
 refine Ch.noise (by rfl) (by rfl) (by rfl) (Se.ap 1 hs rfl rfl rfl rfl (Reads.blk 0 rfl) Tryz.underlying22 u8i3 rfl (by decide) (by simp [Value.oneCell']) rfl (by omega) (by omega) ?_)
 clear hs
 rintro w r3 A3 c3 hs
 simp only [List.set_cons_zero, List.set_cons_succ] at hs
 refine ⟨⟨(Reads.own 2 rfl).cell 2 H2.out _ hs.hold, (Reads.own 2 rfl).cell 3 H3.out _ hs.hold⟩, ?_⟩
 (try simp only [Act.put, List.setIfInBounds_toArray, List.set_cons_zero, List.set_cons_succ])
 iterate 1 ((first | (refine Ch.pure (v := ?_) (by rfl) (by rfl) (by rfl) (fun wx hS => ?_) ?_; rotate_left; (focus (go_simp; (first | done | with_reducible rfl))))); (try simp only [Act.put, List.setIfInBounds_toArray, List.set_cons_zero, List.set_cons_succ]))
 refine Ch.done ?_
 try simp only [List.drop_succ_cons, List.drop_zero]
 replace hs := hs.drop
 replace hs := (hs.pull 1 rfl).drop
 simp only [List.eraseIdx_cons_succ, List.eraseIdx_cons_zero] at hs
 clear C2 C3 H1V H2 H3 HLn HD H1D HDL HXY
 go_upto_if 31 with (fail)
 go_cut [12] (fun s12 wx => ∃ (A : Option Addr) (c : Nat) (r : Option Nat), s12 = .slice A 39 c ∧ St w0 X (.own 1 r A 39 c (NV ++ D ++ [.int .u8 (n8 x), .int .u8 (n8 y)] ++ [.int .u8 (n8 role)]) :: .blk g10 34 Z :: .blk gn 34 NV :: .blk gp 24 PL :: L) wx)
 case first =>
  cases b with
  | true =>
   go_wp2_with (first | ((with_reducible refine Se.isL (o := ⟨some 33, _, _, _, _, _⟩) ?_); (refine Se.toL rfl (Se.bsv (o := ⟨some 33, _, _, _, _, _⟩) hs rfl Tryz.underlying22 u8i2 rfl ([.int .u8 67]) (by rfl) (by rfl) (by decide) (by decide) (by simp [Value.oneCell']) ?_); clear hs; rintro w g33 - hs)) | ((with_reducible refine Se.isL (o := ⟨some 34, _, _, _, _, _⟩) ?_); (refine Se.toL rfl (Se.ap (o := ⟨some 34, _, _, _, _, _⟩) 1 hs rfl rfl rfl rfl ((Reads.blk 0 rfl)) Tryz.underlying22 u8i3 rfl (by decide) ((by simp [Value.oneCell'])) (rfl) ((by omega)) ((by omega)) ?_); clear hs; rintro w r4 A4 c4 hs; try simp only [List.cons_append, List.nil_append, List.set_cons_zero, List.set_cons_succ] at hs)))
   go_meet
   exact ⟨A4, c4, r4, rfl, by rw [show role = 67#8 from HRo.out]; exact hs.drop⟩
  | false =>
   go_wp2_with (first | ((with_reducible refine Se.isL (o := ⟨some 36, _, _, _, _, _⟩) ?_); (refine Se.toL rfl (Se.bsv (o := ⟨some 36, _, _, _, _, _⟩) hs rfl Tryz.underlying22 u8i2 rfl ([.int .u8 72]) (by rfl) (by rfl) (by decide) (by decide) (by simp [Value.oneCell']) ?_); clear hs; rintro w g36 - hs)) | ((with_reducible refine Se.isL (o := ⟨some 37, _, _, _, _, _⟩) ?_); (refine Se.toL rfl (Se.ap (o := ⟨some 37, _, _, _, _, _⟩) 1 hs rfl rfl rfl rfl ((Reads.blk 0 rfl)) Tryz.underlying22 u8i3 rfl (by decide) ((by simp [Value.oneCell'])) (rfl) ((by omega)) ((by omega)) ?_); clear hs; rintro w r4 A4 c4 hs; try simp only [List.cons_append, List.nil_append, List.set_cons_zero, List.set_cons_succ] at hs)))
   go_meet
   exact ⟨A4, c4, r4, rfl, by rw [show role = 72#8 from HRo.out]; exact hs.drop⟩
 case rest =>
  clear hs
  rename World => w
  obtain ⟨A4, c4, r4, rfl, hs⟩ := hcut
  go_upto_region 9 with (first | ((with_reducible refine Se.isL (o := ⟨some 40, _, _, _, _, _⟩) ?_); (refine Se.toL rfl (Se.ld (o := ⟨some 40, _, _, _, _, _⟩) hs rfl rfl (Cell.blk 3 rfl P1.out) (by kernel_rfl) ?_))) | ((with_reducible refine Se.isL (o := ⟨some 45, _, _, _, _, _⟩) ?_); (refine Se.toL rfl (Se.ld (o := ⟨some 45, _, _, _, _, _⟩) hs rfl rfl (Cell.blk 3 rfl P1.out) (by kernel_rfl) ?_))) | ((with_reducible refine Se.isL (o := ⟨some 50, _, _, _, _, _⟩) ?_); (refine Se.toL rfl (Se.ap (o := ⟨some 50, _, _, _, _, _⟩) 1 hs rfl rfl rfl rfl ((Reads.blk 0 rfl)) Tryz.underlying22 u8i3 rfl (by decide) ((by simp [Value.oneCell'])) (rfl) ((by have := h1.out; have := h2.out; omega)) ((by have := h1.out; have := h2.out; omega)) ?_); clear hs; rintro w r50 A50 c50 hs; try simp only [List.cons_append, List.nil_append, List.set_cons_zero, List.set_cons_succ] at hs)) | ((first | with_reducible refine Se.ab hs ?_ | with_reducible refine Se.abc hs ?_); clear hs; (first | (generalize w.heap.size = g49; intro w hs))))
  replace hs := hs.drop
  go_upto_region 10 with (first | ((with_reducible refine Se.isL (o := ⟨some 53, _, _, _, _, _⟩) ?_); (refine Se.toL rfl (Se.ld (o := ⟨some 53, _, _, _, _, _⟩) hs rfl rfl (Cell.blk 3 rfl P1.out) (by kernel_rfl) ?_))) | (with_reducible refine Se.isL (o := ⟨some 54, _, _, _, _, _⟩) ?_; refine Se.toL rfl (Se.aps (o := ⟨some 54, _, _, _, _, _⟩) 0 hs rfl rfl rfl rfl Tryz.underlying22 Tryz.underlying9 u8i3 rfl (by omega) (by have := h1.out; have := h2.out; omega) ?_); clear hs; rintro w r54 A54 c54 hs; simp only [List.set_cons_zero] at hs))
  go_upto_region 11 with (first | ((with_reducible refine Se.isL (o := ⟨some 57, _, _, _, _, _⟩) ?_); (refine Se.toL rfl (Se.ld (o := ⟨some 57, _, _, _, _, _⟩) hs rfl rfl (Cell.blk 3 rfl P2.out) (by kernel_rfl) ?_))) | ((with_reducible refine Se.isL (o := ⟨some 62, _, _, _, _, _⟩) ?_); (refine Se.toL rfl (Se.ld (o := ⟨some 62, _, _, _, _, _⟩) hs rfl rfl (Cell.blk 3 rfl P2.out) (by kernel_rfl) ?_))) | ((with_reducible refine Se.isL (o := ⟨some 67, _, _, _, _, _⟩) ?_); (refine Se.toL rfl (Se.ap (o := ⟨some 67, _, _, _, _, _⟩) 1 hs rfl rfl rfl rfl ((Reads.blk 0 rfl)) Tryz.underlying22 u8i3 rfl (by decide) ((by simp [Value.oneCell'])) (rfl) ((by have := h1.out; have := h2.out; omega)) ((by have := h1.out; have := h2.out; omega)) ?_); clear hs; rintro w r67 A67 c67 hs; try simp only [List.cons_append, List.nil_append, List.set_cons_zero, List.set_cons_succ] at hs)) | ((first | with_reducible refine Se.ab hs ?_ | with_reducible refine Se.abc hs ?_); clear hs; (first | (generalize w.heap.size = g66; intro w hs))))
  replace hs := hs.drop
  go_upto_region 12 with (first | ((with_reducible refine Se.isL (o := ⟨some 70, _, _, _, _, _⟩) ?_); (refine Se.toL rfl (Se.ld (o := ⟨some 70, _, _, _, _, _⟩) hs rfl rfl (Cell.blk 3 rfl P2.out) (by kernel_rfl) ?_))) | (with_reducible refine Se.isL (o := ⟨some 71, _, _, _, _, _⟩) ?_; refine Se.toL rfl (Se.aps (o := ⟨some 71, _, _, _, _, _⟩) 0 hs rfl rfl rfl rfl Tryz.underlying22 Tryz.underlying9 u8i3 rfl (by omega) (by have := h1.out; have := h2.out; omega) ?_); clear hs; rintro w r71 A71 c71 hs; simp only [List.set_cons_zero] at hs))
  rw [SM.out] at hs
  have CH : Hid (∀ (w : World) (n : Nat) (r2 : Option Nat) (A2 : Option Addr) (c2 : Nat), n = 43 + p.hs.size + p.sb.size → St w0 X (.own 1 r2 A2 n c2 ((respM p.py nonce ⟨0#8, 0#8, q, s⟩ role).map v8) :: .blk g10 34 Z :: .blk gn 34 NV :: .blk gp 24 PL :: L) w → Calls Tryz.prog 39 #[.slice A p.sec.length c, .slice A2 n c2] w fun e w' => e = .returned (.agg R.toArray) ∧ St w0 X (.own 1 r2 A2 n c2 ((respM p.py nonce ⟨0#8, 0#8, q, s⟩ role).map v8) :: .blk g10 34 Z :: .blk gn 34 NV :: .blk gp 24 PL :: L) w') := Lib.hid (fun w n r2 A2 c2 hn hs => by
   rw [SR.out]
   exact Sha.rhmac_st hs p.sec _ A A2 p.sec.length n c c2 rfl (by rw [ML.out]; exact hn) (by have := hk.out; omega) (by rw [ML.out]; have := h1.out; have := h2.out; omega) (hr0.out.mono (by intro _ h; simp only [List.mem_cons, h, or_true])) (Reads.own 0 rfl))
  go_wp2_with (first | ((with_reducible refine Se.isL (o := ⟨some 73, _, _, _, _, _⟩) ?_); (refine Se.toL rfl (Se.ld (o := ⟨some 73, _, _, _, _, _⟩) hs rfl rfl (Cell.blk 3 rfl P0.out) (by kernel_rfl) ?_))) | ((with_reducible refine Se.isL (o := ⟨none, _, _, _, _, _⟩) ?_); (refine Se.toL rfl (Se.sow 1 hs rfl rfl rfl rfl (RO.out) ((by rw [RL.out]; kernel_rfl)) ((by rw [RL.out, ZL.out])) ?_); clear hs; intro w hs; try simp only [List.cons_append, List.nil_append, List.set_cons_zero, List.set_cons_succ] at hs)) | (go_at_call 39; refine Calls.mono (CH.out _ _ _ _ _ (by omega) hs) ?_; clear hs; rintro e w ⟨rfl, hs⟩))
  refine Li.bodyPost_blk (by rfl) (by rfl) (hs.hold (.blk g10 34 R) (by simp)) Tryz.underlying34 rfl (by rw [RL.out]; kernel_rfl) rfl ⟨rfl, ?_⟩
  exact hs.drop.drop.drop.drop
end Au
end Go.Proofs.YtakdoijemopejaaGreat
