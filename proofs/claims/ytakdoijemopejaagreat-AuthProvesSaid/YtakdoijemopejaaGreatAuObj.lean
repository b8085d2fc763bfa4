/- Layer 38: a verifier or a prover as memory; its making and its small methods. No condition but Go's own limits. -/
import Derived.Test.YtakdoijemopejaaGreatAuPad
import Derived.Test.YtakdoijemopejaaGreatAuPar
set_option linter.unusedSimpArgs false
set_option linter.unusedVariables false
namespace Go.Proofs.YtakdoijemopejaaGreat
open Go Go.RowKit
namespace Au
open Se (St At Reads Cell)
open Li (v8 v8_one Rd Blk Fr)
open Bv (n8 n16 n32 n64)
variable {w0 w : World} {X : List Nat} {L : List At}
attribute [local irreducible] Calls
/-- A verifier, or a prover. -/
structure Vs where
 p : Pn
 h : Hd := {}
 n : Bs := z32
 o : Bool := false
 d : Bool := false
structure Vs.ok (v : Vs) : Prop where
 n : v.n.length = 32
 k1 : 1 ≤ v.p.sec.length
 k : v.p.sec.length ≤ 64
 a : v.p.hs.size ≤ 240
 b : v.p.sb.size ≤ 240
def chalS (v : Vs) (nonce : Bs) (seq : BitVec 32) (q : BitVec 16) : Vs × Bs × Nat :=
 if seq.toNat ≤ v.h.s.toNat then (v, [], 2) else
 ({ v with h := { k := 1#8, q := q, s := seq }, n := nonce, o := true, d := false }, msg { k := 1#8, q := q, s := seq } [nonce], 0)
def checkS (v : Vs) (b : Bs) : Vs × Bs × Nat :=
 if parE b 2#8 1#8 2 ≠ 0 then (v, [], parE b 2#8 1#8 2) else
 if v.o = false then (v, [], 8) else
 if (hdOf b).q ≠ v.h.q ∨ (hdOf b).s ≠ v.h.s then ({ v with o := false }, [], 3) else
 if prt b 0 ≠ resp v.p.py v.n (hdOf b) 72#8 then ({ v with o := false }, [], 10) else
 ({ v with o := false, d := true }, msg { hdOf b with k := 3#8 } [if (hdOf b).f = 1#8 then resp v.p.py (prt b 1) (hdOf b) 67#8 else z32], 0)
def ansS (p : Vs) (b : Bs) (both : Bool) (nonce : Bs) : Vs × Bs × Nat :=
 if parE b 1#8 0#8 1 ≠ 0 then (p, [], parE b 1#8 0#8 1) else
 ({ p with h := { hdOf b with k := 2#8, f := if both then 1#8 else (hdOf b).f }, n := if both then nonce else z32, o := true, d := false },
  msg { hdOf b with k := 2#8, f := if both then 1#8 else (hdOf b).f } [resp p.p.py (prt b 0) { hdOf b with k := 2#8, f := if both then 1#8 else (hdOf b).f } 72#8, if both then nonce else z32], 0)
def finS (p : Vs) (b : Bs) : Vs × Nat :=
 if parE b 3#8 1#8 1 ≠ 0 then (p, parE b 3#8 1#8 1) else
 if p.o = false then (p, 8) else
 if { hdOf b with k := 2#8 } ≠ p.h then ({ p with o := false }, 3) else
 if (hdOf b).f = 1#8 ∧ prt b 0 ≠ resp p.p.py p.n { hdOf b with k := 2#8 } 67#8 then ({ p with o := false }, 10) else
 ({ p with o := false, d := true }, 0)
/-- The cells of a verifier or a prover. -/
def vcl (v : Vs) (A : Option Addr) (c : Nat) : List Value := pcl v.p A c ++ (hc v.h ++ (v.n.map v8 ++ [.bool v.o, .bool v.d]))
theorem vcl_len {v : Vs} (h : v.n.length = 32) (A : Option Addr) (c : Nat) : (vcl v A c).length = 41 := by simp [vcl, pcl, hc, h]
theorem vcl_one (v : Vs) (A : Option Addr) (c : Nat) : ∀ x ∈ vcl v A c, x.oneCell' = true := by
 intro x hx
 unfold vcl at hx
 simp only [List.mem_append] at hx
 rcases hx with h | h | h | h
 ·simp [pcl] at h; rcases h with rfl | rfl | rfl <;> rfl
 ·simp [hc] at h; rcases h with rfl | rfl | rfl | rfl <;> rfl
 ·exact v8_one _ _ h
 ·simp at h; rcases h with rfl | rfl <;> rfl
theorem vcl_0 (v : Vs) (A : Option Addr) (c : Nat) : (vcl v A c)[0]? = some (.slice A v.p.sec.length c) := rfl
theorem vcl_4 (v : Vs) (A : Option Addr) (c : Nat) : (vcl v A c)[4]? = some (.int .u8 (n8 v.h.f)) := rfl
theorem vcl_5 (v : Vs) (A : Option Addr) (c : Nat) : (vcl v A c)[5]? = some (.int .u16 (n16 v.h.q)) := rfl
theorem vcl_6 (v : Vs) (A : Option Addr) (c : Nat) : (vcl v A c)[6]? = some (.int .u32 (n32 v.h.s)) := rfl
theorem vcl_39 {v : Vs} (h : v.n.length = 32) (A : Option Addr) (c : Nat) : (vcl v A c)[39]? = some (.bool v.o) := by
 simp [vcl, pcl, hc]
 rw [List.getElem?_append_right (by simp [h])]; simp [h]
theorem vcl_40 {v : Vs} (h : v.n.length = 32) (A : Option Addr) (c : Nat) : (vcl v A c)[40]? = some (.bool v.d) := by
 simp [vcl, pcl, hc]
 rw [List.getElem?_append_right (by simp [h])]; simp [h]
theorem vcl_rd (v : Vs) (A : Option Addr) (c g : Nat) (T : TypeId) (L : List At) : Reads (.blk g T (vcl v A c) :: L) (some ⟨g, 0, none⟩) (pcl v.p A c) := by
 have h := (Reads.blk (L := .blk g T (vcl v A c) :: L) 0 rfl).take 3
 exact h
theorem vcl_rh (v : Vs) (A : Option Addr) (c g : Nat) (T : TypeId) (L : List At) : Reads (.blk g T (vcl v A c) :: L) (some ⟨g, 3, none⟩) (hc v.h) := by
 have h := ((Reads.blk (L := .blk g T (vcl v A c) :: L) 0 rfl).at 3).take 4
 exact h
theorem vcl_rn {v : Vs} (hn : v.n.length = 32) (A : Option Addr) (c g : Nat) (T : TypeId) (L : List At) : Reads (.blk g T (vcl v A c) :: L) (some ⟨g, 7, none⟩) (v.n.map v8) := by
 have h := ((Reads.blk (L := .blk g T (vcl v A c) :: L) 0 rfl).at 7).take 32
 have e : ((vcl v A c).drop 7).take 32 = v.n.map v8 := by
  simp [vcl, pcl, hc, List.take_append, hn]
 rw [e] at h
 simpa using h
theorem vcl_setH (v : Vs) (A : Option Addr) (c : Nat) (h : Hd) : (vcl v A c).take 3 ++ hc h ++ (vcl v A c).drop (3 + (hc h).length) = vcl { v with h := h } A c := by simp [vcl, pcl, hc]
theorem vcl_setN {v : Vs} (hn : v.n.length = 32) (A : Option Addr) (c : Nat) {n : Bs} (h : n.length = 32) : (vcl v A c).take 7 ++ n.map v8 ++ (vcl v A c).drop (7 + (n.map v8).length) = vcl { v with n := n } A c := by
 simp [vcl, pcl, hc, h, hn, List.drop_append]
theorem vcl_setO {v : Vs} (hn : v.n.length = 32) (A : Option Addr) (c : Nat) (b : Bool) : (vcl v A c).set 39 (.bool b) = vcl { v with o := b } A c := by
 simp [vcl, pcl, hc, hn, List.set_append]
theorem vcl_setD {v : Vs} (hn : v.n.length = 32) (A : Option Addr) (c : Nat) (b : Bool) : (vcl v A c).set 40 (.bool b) = vcl { v with d := b } A c := by
 simp [vcl, pcl, hc, hn, List.set_append]
theorem soaq {P : Program} {o : Oper} {a : Act} {G : Value → World → Prop} (k : Nat) (hs : St w0 X L w) {ty : TypeId} {x y : Operand} (ho : o.op = .store ty x y) {g i : Nat} (hx : a.eval x = .pointer (some ⟨g, i, none⟩)) {t : TypeId} {l ys : List Value} (hk : L[k]? = some (.blk g t l)) {vs : List Value} (hy : a.eval y = .agg vs.toArray) (h1 : ∀ v ∈ vs, v.oneCell' = true) (hi : (P.info? ty).map (·.size) = some vs.length) (hl : i + vs.length ≤ l.length) (hys : l.take i ++ vs ++ l.drop (i + vs.length) = ys)
  (h : ∀ w', St w0 X (L.set k (.blk g t ys)) w' → G undef w') : Hv.Gives P o a w G := by
 subst hys
 exact Se.soa k hs ho hx hk hy h1 hi hl h
set_option maxRecDepth 100000 in
set_option maxHeartbeats 4000000 in
theorem none_st (hs : St w0 X L w) (p : Pn) (A : Option Addr) (c : Nat) (h1 : 1 ≤ p.sec.length) : Calls Tryz.prog 28 #[.agg (pcl p A c).toArray] w fun e w' => e = .returned (.bool false) ∧ St w0 X L w' := by
 obtain ⟨PL, hPL⟩ : ∃ PL, PL = pcl p A c := ⟨_, rfl⟩
 obtain ⟨m, hm⟩ : ∃ m, m = p.sec.length := ⟨_, rfl⟩
 have P0 := Lib.hid (show PL[0]? = some (.slice A m c) by rw [hPL, hm]; rfl)
 have d1 : ((m : Int) == 0) = false := by simp; omega
 rw [← hPL]
 clear hPL hm
 go_enter Tryz.func28, Tryz.ntmps28
 go_wp2_with (first | ((with_reducible refine Se.isL (o := ⟨some 4, _, _, _, _, _⟩) ?_); (refine Se.toL rfl (Se.ld (o := ⟨some 4, _, _, _, _, _⟩) hs rfl rfl (Cell.blk 0 rfl P0.out) (by kernel_rfl) ?_))) | ((first | with_reducible refine Se.ab hs ?_ | with_reducible refine Se.abc hs ?_); clear hs; (first | (generalize w.heap.size = gp; intro w hs))))
 go_ret
 exact ⟨rfl, hs.drop⟩
theorem pcl_one (p : Pn) (A : Option Addr) (c : Nat) : ∀ x ∈ pcl p A c, x.oneCell' = true := by
 intro x h
 simp [pcl] at h; rcases h with rfl | rfl | rfl <;> rfl
theorem vcl_new (p : Pn) (A : Option Addr) (c : Nat) (w : World) : (Instr.build 69 #[(0, .agg (pcl p A c).toArray)]).run Tryz.prog w = .ok (.agg (vcl { p := p } A c).toArray) w := by kernel_rfl
theorem vcl_newP (p : Pn) (A : Option Addr) (c : Nat) (w : World) : (Instr.build 83 #[(0, .agg (pcl p A c).toArray)]).run Tryz.prog w = .ok (.agg (vcl { p := p } A c).toArray) w := by kernel_rfl
set_option maxRecDepth 100000 in
set_option maxHeartbeats 4000000 in
theorem ver1_st (hs : St w0 X L w) (p : Pn) (A : Option Addr) (c : Nat) : Calls Tryz.prog 26 #[.agg (pcl p A c).toArray] w fun e w' => ∃ g, e = .returned (.pointer (some ⟨g, 0, none⟩)) ∧ St w0 X (.blk g 69 (vcl { p := p } A c) :: L) w' := by
 obtain ⟨PL, hPL⟩ : ∃ PL, PL = pcl p A c := ⟨_, rfl⟩
 obtain ⟨VL, hVL⟩ : ∃ VL, VL = vcl { p := p } A c := ⟨_, rfl⟩
 have PLL := Lib.hid (show PL.length = 3 by rw [hPL]; rfl)
 have B := Lib.hid (show ∀ w : World, (Instr.build 69 #[(0, .agg PL.toArray)]).run Tryz.prog w = .ok (.agg VL.toArray) w by rw [hPL, hVL]; exact vcl_new p A c)
 rw [← hPL, ← hVL]
 clear hPL hVL
 go_enter Tryz.func26, Tryz.ntmps26
 go_wp2_with (first | ((with_reducible refine Se.isL (o := ⟨some 3, _, _, _, _, _⟩) ?_); (refine Se.toL rfl (Se.ldw (o := ⟨some 3, _, _, _, _, _⟩) hs rfl rfl ((Reads.blk 0 rfl)) ((by rw [PLL.out]; kernel_rfl)) (by kernel_rfl) ?_))) | ((with_reducible refine Se.isL (o := ⟨some 4, _, _, _, _, _⟩) ?_); (refine Se.toL rfl (Se.bd (o := ⟨some 4, _, _, _, _, _⟩) rfl rfl (B.out _) ?_))) | ((with_reducible refine Se.isL (o := ⟨some 5, _, _, _, _, _⟩) ?_); (refine Se.toL rfl (Se.bx (o := ⟨some 5, _, _, _, _, _⟩) hs rfl rfl (l := VL) rfl ?_); clear hs; rintro w g5 - hs)) | ((first | with_reducible refine Se.ab hs ?_ | with_reducible refine Se.abc hs ?_); clear hs; (first | (generalize w.heap.size = gp; intro w hs))))
 go_ret
 exact ⟨g5, rfl, (hs.perm (List.Perm.swap _ _ _)).drop⟩
set_option maxRecDepth 100000 in
set_option maxHeartbeats 4000000 in
theorem verMade_st (hs : St w0 X L w) (p : Pn) (A : Option Addr) (c : Nat) (hr : Reads L A (p.sec.map v8)) (h1 : p.hs.size ≤ 240) (h2 : p.sb.size ≤ 240) (hk : p.sec.length ≤ 1000) :
  Calls Tryz.prog 25 #[.agg (pcl p A c).toArray, .func (.func 26) #[] #[]] w fun e w' => (valid p.py = false ∧ e = .returned (.tuple #[.pointer none, .int .i64 2]) ∧ St w0 X L w') ∨ (valid p.py = true ∧ ∃ g A2 c2, e = .returned (.tuple #[.pointer (some ⟨g, 0, none⟩), .int .i64 0]) ∧ St w0 X (.blk g 69 (vcl { p := p } A2 c2) :: .rd A2 (p.sec.map v8) :: L) w') := by
 obtain ⟨PL, hPL⟩ : ∃ PL, PL = pcl p A c := ⟨_, rfl⟩
 obtain ⟨V, hV⟩ : ∃ V, V = valid p.py := ⟨_, rfl⟩
 have PLL := Lib.hid (show PL.length = 3 by rw [hPL]; rfl)
 have P0 := Lib.hid (show PL[0]? = some (.slice A p.sec.length c) by rw [hPL]; rfl)
 have CV : Hid (∀ (L' : List At) (w : World), St w0 X (L' ++ L) w → Calls Tryz.prog 38 #[.agg PL.toArray] w fun e w' => e = .returned (.bool V) ∧ St w0 X (L' ++ L) w') := Lib.hid (fun L' w hs => by rw [hPL, hV]; exact valid_st hs p A c h1 h2 hk)
 have CC : Hid (∀ (L' : List At) (w : World), St w0 X (L' ++ L) w → Calls Tryz.prog 40 #[.slice A p.sec.length c] w fun e w' => ∃ A' c' r', e = .returned (.slice A' p.sec.length c') ∧ St w0 X (.own 1 r' A' p.sec.length c' (p.sec.map v8) :: (L' ++ L)) w') := Lib.hid (fun L' w hs => clone_st hs (hr.app L') (v8_one _) (by simp) (by omega))
 have PS := Lib.hid (show ∀ A2 c2, PL.set 0 (.slice A2 p.sec.length c2) = pcl p A2 c2 by intro A2 c2; rw [hPL]; rfl)
 rw [← hPL, ← hV]
 clear hPL hV h1 h2 hk hr
 cases V with
 | false =>
  go_enter Tryz.func25, Tryz.ntmps25
  go_wp2_with (first | ((with_reducible refine Se.isL (o := ⟨some 6, _, _, _, _, _⟩) ?_); (refine Se.toL rfl (Se.ldw (o := ⟨some 6, _, _, _, _, _⟩) hs rfl rfl ((Reads.blk 0 rfl)) ((by rw [PLL.out]; kernel_rfl)) (by kernel_rfl) ?_))) | ((first | with_reducible refine Se.ab hs ?_ | with_reducible refine Se.abc hs ?_); clear hs; (first | (generalize w.heap.size = gp; intro w hs))) | (go_at_call 38; refine Calls.mono (CV.out [_] _ hs) ?_; clear hs; rintro e w ⟨rfl, hs⟩))
  go_ret2
  exact .inl ⟨trivial, rfl, hs.drop⟩
 | true =>
  go_enter Tryz.func25, Tryz.ntmps25
  go_upto_region 4 with (first | ((with_reducible refine Se.isL (o := ⟨some 6, _, _, _, _, _⟩) ?_); (refine Se.toL rfl (Se.ldw (o := ⟨some 6, _, _, _, _, _⟩) hs rfl rfl ((Reads.blk 0 rfl)) ((by rw [PLL.out]; kernel_rfl)) (by kernel_rfl) ?_))) | ((with_reducible refine Se.isL (o := ⟨some 10, _, _, _, _, _⟩) ?_); (refine Se.toL rfl (Se.ld (o := ⟨some 10, _, _, _, _, _⟩) hs rfl rfl (Cell.blk 0 rfl P0.out) (by kernel_rfl) ?_))) | ((with_reducible refine Se.isL (o := ⟨none, _, _, _, _, _⟩) ?_); ((first | refine Se.toL rfl (Se.soq 1 (v := .int _ _) hs rfl rfl rfl rfl rfl (by kernel_rfl) ((by rw [PLL.out]; omega)) ((PS.out _ _)) ?_) | refine Se.toL rfl (Se.soq 1 (v := .bool _) hs rfl rfl rfl rfl rfl (by kernel_rfl) ((by rw [PLL.out]; omega)) ((PS.out _ _)) ?_) | refine Se.toL rfl (Se.soq 1 (v := .slice _ _ _) hs rfl rfl rfl rfl rfl (by kernel_rfl) ((by rw [PLL.out]; omega)) ((PS.out _ _)) ?_) | refine Se.toL rfl (Se.soq 1 (v := .pointer _) hs rfl rfl rfl rfl rfl (by kernel_rfl) ((by rw [PLL.out]; omega)) ((PS.out _ _)) ?_) | refine Se.toL rfl (Se.soq 1 (v := .string _) hs rfl rfl rfl rfl rfl (by kernel_rfl) ((by rw [PLL.out]; omega)) ((PS.out _ _)) ?_) | refine Se.toL rfl (Se.soq 1 (v := .map _) hs rfl rfl rfl rfl rfl (by kernel_rfl) ((by rw [PLL.out]; omega)) ((PS.out _ _)) ?_) | refine Se.toL rfl (Se.soq 1 (v := .func _ _ _) hs rfl rfl rfl rfl rfl (by kernel_rfl) ((by rw [PLL.out]; omega)) ((PS.out _ _)) ?_) | refine Se.toL rfl (Se.soq 1 (v := .nilFunc) hs rfl rfl rfl rfl rfl (by kernel_rfl) ((by rw [PLL.out]; omega)) ((PS.out _ _)) ?_)); clear hs; intro w hs; try simp only [List.cons_append, List.nil_append, List.set_cons_zero, List.set_cons_succ] at hs)) | ((first | with_reducible refine Se.ab hs ?_ | with_reducible refine Se.abc hs ?_); clear hs; (first | (generalize w.heap.size = gp; intro w hs))) | (go_at_call 38; refine Calls.mono (CV.out [_] _ hs) ?_; clear hs; rintro e w ⟨rfl, hs⟩) | (go_at_call 40; refine Calls.mono (CC.out [_] _ hs) ?_; clear hs; rintro e w ⟨A2, c2, r2, rfl, hs⟩))
  go_wp2_with (first | ((with_reducible refine Se.isL (o := ⟨some 14, _, _, _, _, _⟩) ?_); (refine Se.toL rfl (Se.ldw (o := ⟨some 14, _, _, _, _, _⟩) hs rfl rfl ((Reads.blk 1 rfl)) ((by kernel_rfl)) (by kernel_rfl) ?_))) | (go_at_call 26; refine Calls.mono (ver1_st hs p _ _) ?_; clear hs; rintro e w ⟨g, rfl, hs⟩))
  go_ret2
  refine .inr ⟨trivial, g, A2, c2, rfl, ?_⟩
  have h3 := (hs.pull 2 rfl).drop
  simp only [List.eraseIdx_cons_succ, List.eraseIdx_cons_zero] at h3
  exact ((h3.perm (List.Perm.swap _ _ _)).own_rd).perm (List.Perm.swap _ _ _)
set_option maxRecDepth 100000 in
set_option maxHeartbeats 4000000 in
theorem verNew_st (hs : St w0 X L w) (p : Pn) (A : Option Addr) (c : Nat) (hr : Reads L A (p.sec.map v8)) (h1 : p.hs.size ≤ 240) (h2 : p.sb.size ≤ 240) (hk : p.sec.length ≤ 1000) :
  Calls Tryz.prog 8 #[.slice A p.sec.length c, .string p.hs, .string p.sb] w fun e w' => (valid p.py = false ∧ e = .returned (.tuple #[.pointer none, .int .i64 2]) ∧ St w0 X L w') ∨ (valid p.py = true ∧ ∃ g A2 c2, e = .returned (.tuple #[.pointer (some ⟨g, 0, none⟩), .int .i64 0]) ∧ St w0 X (.blk g 69 (vcl { p := p } A2 c2) :: .rd A2 (p.sec.map v8) :: L) w') := by
 have C := Lib.hid (verMade_st hs p A c hr h1 h2 hk)
 obtain ⟨PL, hPL⟩ : ∃ PL, PL = pcl p A c := ⟨_, rfl⟩
 have B := Lib.hid (show ∀ w : World, (Instr.build 65 #[(0, .slice A p.sec.length c), (1, .string p.hs), (2, .string p.sb)]).run Tryz.prog w = .ok (.agg PL.toArray) w by rw [hPL]; intro w; kernel_rfl)
 rw [← hPL] at C
 clear hPL h1 h2 hk hr
 go_enter Tryz.func8, Tryz.ntmps8
 go_wp2_with (first | ((with_reducible refine Se.isL (o := ⟨some 11, _, _, _, _, _⟩) ?_); (refine Se.toL rfl (Se.bd (o := ⟨some 11, _, _, _, _, _⟩) rfl rfl (B.out _) ?_))) | (go_at_call 25; fail))
 refine Calls.mono C.out ?_
 rintro e w' (⟨h1, rfl, hs⟩ | ⟨h1, g, A2, c2, rfl, hs⟩)
 ·go_wp2_with fail
  go_ret2
  exact .inl ⟨h1, rfl, hs⟩
 ·go_wp2_with fail
  go_ret2
  exact .inr ⟨h1, g, A2, c2, rfl, hs⟩
set_option maxRecDepth 100000 in
set_option maxHeartbeats 4000000 in
theorem pro1_st (hs : St w0 X L w) (p : Pn) (A : Option Addr) (c : Nat) : Calls Tryz.prog 37 #[.agg (pcl p A c).toArray] w fun e w' => ∃ g, e = .returned (.pointer (some ⟨g, 0, none⟩)) ∧ St w0 X (.blk g 83 (vcl { p := p } A c) :: L) w' := by
 obtain ⟨PL, hPL⟩ : ∃ PL, PL = pcl p A c := ⟨_, rfl⟩
 obtain ⟨VL, hVL⟩ : ∃ VL, VL = vcl { p := p } A c := ⟨_, rfl⟩
 have PLL := Lib.hid (show PL.length = 3 by rw [hPL]; rfl)
 have B := Lib.hid (show ∀ w : World, (Instr.build 83 #[(0, .agg PL.toArray)]).run Tryz.prog w = .ok (.agg VL.toArray) w by rw [hPL, hVL]; exact vcl_newP p A c)
 rw [← hPL, ← hVL]
 clear hPL hVL
 go_enter Tryz.func37, Tryz.ntmps37
 go_wp2_with (first | ((with_reducible refine Se.isL (o := ⟨some 3, _, _, _, _, _⟩) ?_); (refine Se.toL rfl (Se.ldw (o := ⟨some 3, _, _, _, _, _⟩) hs rfl rfl ((Reads.blk 0 rfl)) ((by rw [PLL.out]; kernel_rfl)) (by kernel_rfl) ?_))) | ((with_reducible refine Se.isL (o := ⟨some 4, _, _, _, _, _⟩) ?_); (refine Se.toL rfl (Se.bd (o := ⟨some 4, _, _, _, _, _⟩) rfl rfl (B.out _) ?_))) | ((with_reducible refine Se.isL (o := ⟨some 5, _, _, _, _, _⟩) ?_); (refine Se.toL rfl (Se.bx (o := ⟨some 5, _, _, _, _, _⟩) hs rfl rfl (l := VL) rfl ?_); clear hs; rintro w g5 - hs)) | ((first | with_reducible refine Se.ab hs ?_ | with_reducible refine Se.abc hs ?_); clear hs; (first | (generalize w.heap.size = gp; intro w hs))))
 go_ret
 exact ⟨g5, rfl, (hs.perm (List.Perm.swap _ _ _)).drop⟩
set_option maxRecDepth 100000 in
set_option maxHeartbeats 4000000 in
theorem proMade_st (hs : St w0 X L w) (p : Pn) (A : Option Addr) (c : Nat) (hr : Reads L A (p.sec.map v8)) (h1 : p.hs.size ≤ 240) (h2 : p.sb.size ≤ 240) (hk : p.sec.length ≤ 1000) :
  Calls Tryz.prog 36 #[.agg (pcl p A c).toArray, .func (.func 37) #[] #[]] w fun e w' => (valid p.py = false ∧ e = .returned (.tuple #[.pointer none, .int .i64 2]) ∧ St w0 X L w') ∨ (valid p.py = true ∧ ∃ g A2 c2, e = .returned (.tuple #[.pointer (some ⟨g, 0, none⟩), .int .i64 0]) ∧ St w0 X (.blk g 83 (vcl { p := p } A2 c2) :: .rd A2 (p.sec.map v8) :: L) w') := by
 obtain ⟨PL, hPL⟩ : ∃ PL, PL = pcl p A c := ⟨_, rfl⟩
 obtain ⟨V, hV⟩ : ∃ V, V = valid p.py := ⟨_, rfl⟩
 have PLL := Lib.hid (show PL.length = 3 by rw [hPL]; rfl)
 have P0 := Lib.hid (show PL[0]? = some (.slice A p.sec.length c) by rw [hPL]; rfl)
 have CV : Hid (∀ (L' : List At) (w : World), St w0 X (L' ++ L) w → Calls Tryz.prog 38 #[.agg PL.toArray] w fun e w' => e = .returned (.bool V) ∧ St w0 X (L' ++ L) w') := Lib.hid (fun L' w hs => by rw [hPL, hV]; exact valid_st hs p A c h1 h2 hk)
 have CC : Hid (∀ (L' : List At) (w : World), St w0 X (L' ++ L) w → Calls Tryz.prog 40 #[.slice A p.sec.length c] w fun e w' => ∃ A' c' r', e = .returned (.slice A' p.sec.length c') ∧ St w0 X (.own 1 r' A' p.sec.length c' (p.sec.map v8) :: (L' ++ L)) w') := Lib.hid (fun L' w hs => clone_st hs (hr.app L') (v8_one _) (by simp) (by omega))
 have PS := Lib.hid (show ∀ A2 c2, PL.set 0 (.slice A2 p.sec.length c2) = pcl p A2 c2 by intro A2 c2; rw [hPL]; rfl)
 rw [← hPL, ← hV]
 clear hPL hV h1 h2 hk hr
 cases V with
 | false =>
  go_enter Tryz.func36, Tryz.ntmps36
  go_wp2_with (first | ((with_reducible refine Se.isL (o := ⟨some 6, _, _, _, _, _⟩) ?_); (refine Se.toL rfl (Se.ldw (o := ⟨some 6, _, _, _, _, _⟩) hs rfl rfl ((Reads.blk 0 rfl)) ((by rw [PLL.out]; kernel_rfl)) (by kernel_rfl) ?_))) | ((first | with_reducible refine Se.ab hs ?_ | with_reducible refine Se.abc hs ?_); clear hs; (first | (generalize w.heap.size = gp; intro w hs))) | (go_at_call 38; refine Calls.mono (CV.out [_] _ hs) ?_; clear hs; rintro e w ⟨rfl, hs⟩))
  go_ret2
  exact .inl ⟨trivial, rfl, hs.drop⟩
 | true =>
  go_enter Tryz.func36, Tryz.ntmps36
  go_upto_region 4 with (first | ((with_reducible refine Se.isL (o := ⟨some 6, _, _, _, _, _⟩) ?_); (refine Se.toL rfl (Se.ldw (o := ⟨some 6, _, _, _, _, _⟩) hs rfl rfl ((Reads.blk 0 rfl)) ((by rw [PLL.out]; kernel_rfl)) (by kernel_rfl) ?_))) | ((with_reducible refine Se.isL (o := ⟨some 10, _, _, _, _, _⟩) ?_); (refine Se.toL rfl (Se.ld (o := ⟨some 10, _, _, _, _, _⟩) hs rfl rfl (Cell.blk 0 rfl P0.out) (by kernel_rfl) ?_))) | ((with_reducible refine Se.isL (o := ⟨none, _, _, _, _, _⟩) ?_); ((first | refine Se.toL rfl (Se.soq 1 (v := .int _ _) hs rfl rfl rfl rfl rfl (by kernel_rfl) ((by rw [PLL.out]; omega)) ((PS.out _ _)) ?_) | refine Se.toL rfl (Se.soq 1 (v := .bool _) hs rfl rfl rfl rfl rfl (by kernel_rfl) ((by rw [PLL.out]; omega)) ((PS.out _ _)) ?_) | refine Se.toL rfl (Se.soq 1 (v := .slice _ _ _) hs rfl rfl rfl rfl rfl (by kernel_rfl) ((by rw [PLL.out]; omega)) ((PS.out _ _)) ?_) | refine Se.toL rfl (Se.soq 1 (v := .pointer _) hs rfl rfl rfl rfl rfl (by kernel_rfl) ((by rw [PLL.out]; omega)) ((PS.out _ _)) ?_) | refine Se.toL rfl (Se.soq 1 (v := .string _) hs rfl rfl rfl rfl rfl (by kernel_rfl) ((by rw [PLL.out]; omega)) ((PS.out _ _)) ?_) | refine Se.toL rfl (Se.soq 1 (v := .map _) hs rfl rfl rfl rfl rfl (by kernel_rfl) ((by rw [PLL.out]; omega)) ((PS.out _ _)) ?_) | refine Se.toL rfl (Se.soq 1 (v := .func _ _ _) hs rfl rfl rfl rfl rfl (by kernel_rfl) ((by rw [PLL.out]; omega)) ((PS.out _ _)) ?_) | refine Se.toL rfl (Se.soq 1 (v := .nilFunc) hs rfl rfl rfl rfl rfl (by kernel_rfl) ((by rw [PLL.out]; omega)) ((PS.out _ _)) ?_)); clear hs; intro w hs; try simp only [List.cons_append, List.nil_append, List.set_cons_zero, List.set_cons_succ] at hs)) | ((first | with_reducible refine Se.ab hs ?_ | with_reducible refine Se.abc hs ?_); clear hs; (first | (generalize w.heap.size = gp; intro w hs))) | (go_at_call 38; refine Calls.mono (CV.out [_] _ hs) ?_; clear hs; rintro e w ⟨rfl, hs⟩) | (go_at_call 40; refine Calls.mono (CC.out [_] _ hs) ?_; clear hs; rintro e w ⟨A2, c2, r2, rfl, hs⟩))
  go_wp2_with (first | ((with_reducible refine Se.isL (o := ⟨some 14, _, _, _, _, _⟩) ?_); (refine Se.toL rfl (Se.ldw (o := ⟨some 14, _, _, _, _, _⟩) hs rfl rfl ((Reads.blk 1 rfl)) ((by kernel_rfl)) (by kernel_rfl) ?_))) | (go_at_call 37; refine Calls.mono (pro1_st hs p _ _) ?_; clear hs; rintro e w ⟨g, rfl, hs⟩))
  go_ret2
  refine .inr ⟨trivial, g, A2, c2, rfl, ?_⟩
  have h3 := (hs.pull 2 rfl).drop
  simp only [List.eraseIdx_cons_succ, List.eraseIdx_cons_zero] at h3
  exact ((h3.perm (List.Perm.swap _ _ _)).own_rd).perm (List.Perm.swap _ _ _)
set_option maxRecDepth 100000 in
set_option maxHeartbeats 4000000 in
theorem proNew_st (hs : St w0 X L w) (p : Pn) (A : Option Addr) (c : Nat) (hr : Reads L A (p.sec.map v8)) (h1 : p.hs.size ≤ 240) (h2 : p.sb.size ≤ 240) (hk : p.sec.length ≤ 1000) :
  Calls Tryz.prog 18 #[.slice A p.sec.length c, .string p.hs, .string p.sb] w fun e w' => (valid p.py = false ∧ e = .returned (.tuple #[.pointer none, .int .i64 2]) ∧ St w0 X L w') ∨ (valid p.py = true ∧ ∃ g A2 c2, e = .returned (.tuple #[.pointer (some ⟨g, 0, none⟩), .int .i64 0]) ∧ St w0 X (.blk g 83 (vcl { p := p } A2 c2) :: .rd A2 (p.sec.map v8) :: L) w') := by
 have C := Lib.hid (proMade_st hs p A c hr h1 h2 hk)
 obtain ⟨PL, hPL⟩ : ∃ PL, PL = pcl p A c := ⟨_, rfl⟩
 have B := Lib.hid (show ∀ w : World, (Instr.build 65 #[(0, .slice A p.sec.length c), (1, .string p.hs), (2, .string p.sb)]).run Tryz.prog w = .ok (.agg PL.toArray) w by rw [hPL]; intro w; kernel_rfl)
 rw [← hPL] at C
 clear hPL h1 h2 hk hr
 go_enter Tryz.func18, Tryz.ntmps18
 go_wp2_with (first | ((with_reducible refine Se.isL (o := ⟨some 11, _, _, _, _, _⟩) ?_); (refine Se.toL rfl (Se.bd (o := ⟨some 11, _, _, _, _, _⟩) rfl rfl (B.out _) ?_))) | (go_at_call 36; fail))
 refine Calls.mono C.out ?_
 rintro e w' (⟨h1, rfl, hs⟩ | ⟨h1, g, A2, c2, rfl, hs⟩)
 ·go_wp2_with fail
  go_ret2
  exact .inl ⟨h1, rfl, hs⟩
 ·go_wp2_with fail
  go_ret2
  exact .inr ⟨h1, g, A2, c2, rfl, hs⟩
set_option maxRecDepth 100000 in
set_option maxHeartbeats 4000000 in
theorem verDone_st {v : Vs} {A : Option Addr} {c g : Nat} (hs : St w0 X (.blk g 69 (vcl v A c) :: L) w) (hn : v.n.length = 32) : Calls Tryz.prog 17 #[.pointer (some ⟨g, 0, none⟩)] w fun e w' => e = .returned (.bool v.d) ∧ St w0 X (.blk g 69 (vcl v A c) :: L) w' := by
 obtain ⟨VL, hVL⟩ : ∃ VL, VL = vcl v A c := ⟨_, rfl⟩
 obtain ⟨d, hd⟩ : ∃ d, d = v.d := ⟨_, rfl⟩
 have V40 := Lib.hid (show VL[40]? = some (.bool d) by rw [hVL, hd]; exact vcl_40 hn A c)
 rw [← hVL] at hs ⊢
 rw [← hd]
 clear hVL hd
 go_enter Tryz.func17, Tryz.ntmps17
 go_wp2_with (first | ((with_reducible refine Se.isL (o := ⟨some 9, _, _, _, _, _⟩) ?_); (refine Se.toL rfl (Se.ld (o := ⟨some 9, _, _, _, _, _⟩) hs rfl rfl (Cell.blk 0 rfl V40.out) (by kernel_rfl) ?_))))
 go_ret
 exact ⟨rfl, hs⟩
set_option maxRecDepth 100000 in
set_option maxHeartbeats 4000000 in
theorem proDone_st {v : Vs} {A : Option Addr} {c g : Nat} (hs : St w0 X (.blk g 83 (vcl v A c) :: L) w) (hn : v.n.length = 32) : Calls Tryz.prog 22 #[.pointer (some ⟨g, 0, none⟩)] w fun e w' => e = .returned (.bool v.d) ∧ St w0 X (.blk g 83 (vcl v A c) :: L) w' := by
 obtain ⟨VL, hVL⟩ : ∃ VL, VL = vcl v A c := ⟨_, rfl⟩
 obtain ⟨d, hd⟩ : ∃ d, d = v.d := ⟨_, rfl⟩
 have V40 := Lib.hid (show VL[40]? = some (.bool d) by rw [hVL, hd]; exact vcl_40 hn A c)
 rw [← hVL] at hs ⊢
 rw [← hd]
 clear hVL hd
 go_enter Tryz.func22, Tryz.ntmps22
 go_wp2_with (first | ((with_reducible refine Se.isL (o := ⟨some 9, _, _, _, _, _⟩) ?_); (refine Se.toL rfl (Se.ld (o := ⟨some 9, _, _, _, _, _⟩) hs rfl rfl (Cell.blk 0 rfl V40.out) (by kernel_rfl) ?_))))
 go_ret
 exact ⟨rfl, hs⟩
/-- What a method that answers with a message leaves. -/
def MsgR (w0 : World) (X : List Nat) (L : List At) (g : Nat) (T : TypeId) (A : Option Addr) (c : Nat) (r : Vs × Bs × Nat) (e : Ending) (w' : World) : Prop :=
 ∃ r2 A2 c2 k, k = r.2.1.length ∧ e = .returned (.tuple #[.slice A2 k c2, .int .i64 r.2.2]) ∧ St w0 X (.own 1 r2 A2 k c2 (r.2.1.map v8) :: .blk g T (vcl r.1 A c) :: L) w'
theorem msg_len (h : Hd) (ps : List Bs) (hp : ∀ p ∈ ps, p.length = 32) : (msg h ps).length = 8 + 32 * ps.length := by
 unfold msg; rw [List.length_append, headL_len, flat_len ps hp]
set_option maxRecDepth 100000 in
set_option maxHeartbeats 4000000 in
theorem chal_st {v : Vs} {A : Option Addr} {c g : Nat} (hs : St w0 X (.blk g 69 (vcl v A c) :: L) w) (hv : v.ok) (nonce : Bs) (hn : nonce.length = 32) (seq : BitVec 32) (q : BitVec 16) :
  Calls Tryz.prog 10 #[.pointer (some ⟨g, 0, none⟩), .agg (nonce.map v8).toArray, .int .u32 (n32 seq), .int .u16 (n16 q)] w fun e w' => MsgR w0 X L g 69 A c (chalS v nonce seq q) e w' := by
 obtain ⟨R, hR⟩ : ∃ R, R = chalS v nonce seq q := ⟨_, rfl⟩
 rw [← hR]
 obtain ⟨VL, hVL⟩ : ∃ VL, VL = vcl v A c := ⟨_, rfl⟩
 obtain ⟨PL, hPL⟩ : ∃ PL, PL = pcl v.p A c := ⟨_, rfl⟩
 have V6 := Lib.hid (show VL[6]? = some (.int .u32 (n32 v.h.s)) by rw [hVL]; rfl)
 have VLL := Lib.hid (show VL.length = 41 by rw [hVL]; exact vcl_len hv.n A c)
 have PLL := Lib.hid (show PL.length = 3 by rw [hPL]; rfl)
 have HVL := Lib.hid hVL
 have RP := Lib.hid (show ∀ L, Reads (.blk g 69 VL :: L) (some ⟨g, 0, none⟩) PL by intro L; rw [hVL, hPL]; exact vcl_rd v A c g _ L)
 have CN : Hid (∀ (L' : List At) (w : World), St w0 X L' w → Calls Tryz.prog 28 #[.agg PL.toArray] w fun e w' => e = .returned (.bool false) ∧ St w0 X L' w') := Lib.hid (fun L' w hs => by rw [hPL]; exact none_st hs v.p A c hv.k1)
 have NL := Lib.hid (show (nonce.map v8).length = 32 by simpa using hn)
 have HR := Lib.hid hR
 obtain ⟨s0, hs0⟩ : ∃ s0, s0 = v.h.s := ⟨_, rfl⟩
 rw [← hVL] at hs
 rw [← hs0] at V6
 by_cases h1 : seq.toNat ≤ v.h.s.toNat
 ·have d1 : decide (n32 seq ≤ n32 s0) = true := by rw [hs0]; unfold n32; simp; exact h1
  have HR := Lib.hid (show R = (v, [], 2) by rw [hR]; unfold chalS; rw [if_pos h1])
  clear hVL hPL hs0 h1 hR
  go_enter Tryz.func10, Tryz.ntmps10
  go_wp2_with (first | ((with_reducible refine Se.isL (o := ⟨some 17, _, _, _, _, _⟩) ?_); (refine Se.toL rfl (Se.ldw (o := ⟨some 17, _, _, _, _, _⟩) hs rfl rfl (((RP.out _).cons _)) ((by rw [PLL.out]; kernel_rfl)) (by kernel_rfl) ?_))) | ((with_reducible refine Se.isL (o := ⟨some 26, _, _, _, _, _⟩) ?_); (refine Se.toL rfl (Se.ld (o := ⟨some 26, _, _, _, _, _⟩) hs rfl rfl (Cell.blk 1 rfl V6.out) (by kernel_rfl) ?_))) | ((first | with_reducible refine Se.ab hs ?_ | with_reducible refine Se.abc hs ?_); clear hs; (first | (generalize w.heap.size = g5; intro w hs))) | (go_at_call 28; refine Calls.mono (CN.out _ _ hs) ?_; clear hs; rintro e w ⟨rfl, hs⟩))
  go_ret2
  refine ⟨none, none, 0, 0, by rw [HR.out]; rfl, by rw [HR.out]; rfl, ?_⟩
  rw [HR.out]
  simp only
  rw [← HVL.out]
  exact hs.drop.nil_own 1 none
 ·have d1 : decide (n32 seq ≤ n32 s0) = false := by rw [hs0]; unfold n32; simp; omega
  obtain ⟨H, hH⟩ : ∃ H : Hd, H = { k := 1#8, q := q, s := seq } := ⟨_, rfl⟩
  have HR := Lib.hid (show R = ({ v with h := H, n := nonce, o := true, d := false }, msg H [nonce], 0) by rw [hR, hH]; unfold chalS; rw [if_neg h1])
  have HB := Lib.hid (show ∀ w : World, (Instr.build 67 #[(0, .int .u8 1), (2, .int .u16 (n16 q)), (3, .int .u32 (n32 seq))]).run Tryz.prog w = .ok (.agg (hc H).toArray) w by rw [hH]; intro w; kernel_rfl)
  obtain ⟨HL, hHL⟩ : ∃ HL, HL = hc H := ⟨_, rfl⟩
  rw [← hHL] at HB
  have HLL := Lib.hid (show HL.length = 4 by rw [hHL]; rfl)
  have HLO := Lib.hid (show ∀ x ∈ HL, x.oneCell' = true by rw [hHL]; simp [hc, Value.oneCell'])
  obtain ⟨V1, hV1⟩ : ∃ V1, V1 = vcl { v with h := H } A c := ⟨_, rfl⟩
  obtain ⟨V2, hV2⟩ : ∃ V2, V2 = vcl { v with h := H, n := nonce } A c := ⟨_, rfl⟩
  obtain ⟨V3, hV3⟩ : ∃ V3, V3 = vcl { v with h := H, n := nonce, o := true } A c := ⟨_, rfl⟩
  obtain ⟨V4, hV4⟩ : ∃ V4, V4 = vcl { v with h := H, n := nonce, o := true, d := false } A c := ⟨_, rfl⟩
  obtain ⟨NV, hNV⟩ : ∃ NV, NV = nonce.map v8 := ⟨_, rfl⟩
  have NO := Lib.hid (show ∀ x ∈ NV, x.oneCell' = true by rw [hNV]; exact v8_one _)
  rw [← hNV] at NL ⊢
  have E1 := Lib.hid (show VL.take 3 ++ HL ++ VL.drop (3 + HL.length) = V1 by rw [hVL, hV1, hHL]; exact vcl_setH v A c H)
  have E2 := Lib.hid (show V1.take 7 ++ NV ++ V1.drop (7 + NV.length) = V2 by rw [hV1, hV2, hNV]; exact vcl_setN (v := { v with h := H }) hv.n A c hn)
  have E3 := Lib.hid (show V2.set 39 (.bool true) = V3 by rw [hV2, hV3]; exact vcl_setO (v := { v with h := H, n := nonce }) hn A c true)
  have E4 := Lib.hid (show V3.set 40 (.bool false) = V4 by rw [hV3, hV4]; exact vcl_setD (v := { v with h := H, n := nonce, o := true }) hn A c false)
  have L1 := Lib.hid (show V1.length = 41 by rw [hV1]; exact vcl_len (v := { v with h := H }) hv.n A c)
  have L2 := Lib.hid (show V2.length = 41 by rw [hV2]; exact vcl_len (v := { v with h := H, n := nonce }) hn A c)
  have L3 := Lib.hid (show V3.length = 41 by rw [hV3]; exact vcl_len (v := { v with h := H, n := nonce, o := true }) hn A c)
  have HV4 := Lib.hid hV4
  have R4 := Lib.hid (show ∀ L, Reads (.blk g 69 V4 :: L) (some ⟨g, 3, none⟩) HL by intro L; rw [hV4, hHL]; exact vcl_rh { v with h := H, n := nonce, o := true, d := false } A c g _ L)
  have CM : Hid (∀ (L' : List At) (g49 : Nat) (t : TypeId) (w : World), St w0 X (.blk g49 t NV :: L') w → Calls Tryz.prog 29 #[.agg HL.toArray, .slice (some ⟨g49, 0, none⟩) 1 1] w fun e w' => ∃ r2 A2 c2, e = .returned (.slice A2 40 c2) ∧ St w0 X (.own 1 r2 A2 40 c2 ((msg H [nonce]).map v8) :: .blk g49 t NV :: L') w') := Lib.hid (fun L' g49 t w hs => by
   rw [hHL]
   exact msg_st hs H [nonce] (k := 1) (c := 1) rfl (by omega) (by simpa using hn) (by rw [show [nonce].flatten = nonce by simp, ← hNV]; exact Reads.blk 0 rfl))
  have ML := Lib.hid (show (msg H [nonce]).length = 40 by rw [msg_len H [nonce] (by simpa using hn)]; rfl)
  clear hVL hPL hs0 h1 hR hH hHL hV1 hV2 hV3 hV4 hNV
  go_enter Tryz.func10, Tryz.ntmps10
  go_upto_region 5 with (first | ((with_reducible refine Se.isL (o := ⟨some 17, _, _, _, _, _⟩) ?_); (refine Se.toL rfl (Se.ldw (o := ⟨some 17, _, _, _, _, _⟩) hs rfl rfl (((RP.out _).cons _)) ((by rw [PLL.out]; kernel_rfl)) (by kernel_rfl) ?_))) | ((with_reducible refine Se.isL (o := ⟨some 26, _, _, _, _, _⟩) ?_); (refine Se.toL rfl (Se.ld (o := ⟨some 26, _, _, _, _, _⟩) hs rfl rfl (Cell.blk 1 rfl V6.out) (by kernel_rfl) ?_))) | ((first | with_reducible refine Se.ab hs ?_ | with_reducible refine Se.abc hs ?_); clear hs; (first | (generalize w.heap.size = g5; intro w hs))) | (go_at_call 28; refine Calls.mono (CN.out _ _ hs) ?_; clear hs; rintro e w ⟨rfl, hs⟩))
  go_upto_region 6 with (first | ((with_reducible refine Se.isL (o := ⟨some 31, _, _, _, _, _⟩) ?_); (refine Se.toL rfl (Se.bd (o := ⟨some 31, _, _, _, _, _⟩) rfl rfl (HB.out _) ?_))) | ((with_reducible refine Se.isL (o := ⟨none, _, _, _, _, _⟩) ?_); (refine Se.toL rfl (Au.soaq 1 hs rfl rfl rfl rfl (HLO.out) ((by rw [HLL.out]; kernel_rfl)) ((by rw [HLL.out, VLL.out]; omega)) (E1.out) ?_); clear hs; intro w hs; try simp only [List.cons_append, List.nil_append, List.set_cons_zero, List.set_cons_succ] at hs)))
  go_upto_region 7 with (first | ((with_reducible refine Se.isL (o := ⟨some 37, _, _, _, _, _⟩) ?_); (refine Se.toL rfl (Se.ldw (o := ⟨some 37, _, _, _, _, _⟩) hs rfl rfl ((Reads.blk 0 rfl)) ((by rw [NL.out]; kernel_rfl)) (by kernel_rfl) ?_))) | ((with_reducible refine Se.isL (o := ⟨none, Op.store 34 _ _, _, _, _, _⟩) ?_); (refine Se.toL rfl (Au.soaq 1 hs rfl rfl rfl rfl (NO.out) ((by rw [NL.out]; kernel_rfl)) ((by rw [NL.out, L1.out]; omega)) (E2.out) ?_); clear hs; intro w hs; try simp only [List.cons_append, List.nil_append, List.set_cons_zero, List.set_cons_succ] at hs)) | ((with_reducible refine Se.isL (o := ⟨none, Op.store 4 _ _, _, _, _, _⟩) ?_); ((first | refine Se.toL rfl (Se.soq 1 (v := .int _ _) hs rfl rfl rfl rfl rfl (by kernel_rfl) ((by rw [L2.out]; omega)) (E3.out) ?_) | refine Se.toL rfl (Se.soq 1 (v := .bool _) hs rfl rfl rfl rfl rfl (by kernel_rfl) ((by rw [L2.out]; omega)) (E3.out) ?_) | refine Se.toL rfl (Se.soq 1 (v := .slice _ _ _) hs rfl rfl rfl rfl rfl (by kernel_rfl) ((by rw [L2.out]; omega)) (E3.out) ?_) | refine Se.toL rfl (Se.soq 1 (v := .pointer _) hs rfl rfl rfl rfl rfl (by kernel_rfl) ((by rw [L2.out]; omega)) (E3.out) ?_) | refine Se.toL rfl (Se.soq 1 (v := .string _) hs rfl rfl rfl rfl rfl (by kernel_rfl) ((by rw [L2.out]; omega)) (E3.out) ?_) | refine Se.toL rfl (Se.soq 1 (v := .map _) hs rfl rfl rfl rfl rfl (by kernel_rfl) ((by rw [L2.out]; omega)) (E3.out) ?_) | refine Se.toL rfl (Se.soq 1 (v := .func _ _ _) hs rfl rfl rfl rfl rfl (by kernel_rfl) ((by rw [L2.out]; omega)) (E3.out) ?_) | refine Se.toL rfl (Se.soq 1 (v := .nilFunc) hs rfl rfl rfl rfl rfl (by kernel_rfl) ((by rw [L2.out]; omega)) (E3.out) ?_)); clear hs; intro w hs; try simp only [List.cons_append, List.nil_append, List.set_cons_zero, List.set_cons_succ] at hs)) | ((with_reducible refine Se.isL (o := ⟨none, Op.store 4 _ _, _, _, _, _⟩) ?_); ((first | refine Se.toL rfl (Se.soq 1 (v := .int _ _) hs rfl rfl rfl rfl rfl (by kernel_rfl) ((by rw [L3.out]; omega)) (E4.out) ?_) | refine Se.toL rfl (Se.soq 1 (v := .bool _) hs rfl rfl rfl rfl rfl (by kernel_rfl) ((by rw [L3.out]; omega)) (E4.out) ?_) | refine Se.toL rfl (Se.soq 1 (v := .slice _ _ _) hs rfl rfl rfl rfl rfl (by kernel_rfl) ((by rw [L3.out]; omega)) (E4.out) ?_) | refine Se.toL rfl (Se.soq 1 (v := .pointer _) hs rfl rfl rfl rfl rfl (by kernel_rfl) ((by rw [L3.out]; omega)) (E4.out) ?_) | refine Se.toL rfl (Se.soq 1 (v := .string _) hs rfl rfl rfl rfl rfl (by kernel_rfl) ((by rw [L3.out]; omega)) (E4.out) ?_) | refine Se.toL rfl (Se.soq 1 (v := .map _) hs rfl rfl rfl rfl rfl (by kernel_rfl) ((by rw [L3.out]; omega)) (E4.out) ?_) | refine Se.toL rfl (Se.soq 1 (v := .func _ _ _) hs rfl rfl rfl rfl rfl (by kernel_rfl) ((by rw [L3.out]; omega)) (E4.out) ?_) | refine Se.toL rfl (Se.soq 1 (v := .nilFunc) hs rfl rfl rfl rfl rfl (by kernel_rfl) ((by rw [L3.out]; omega)) (E4.out) ?_)); clear hs; intro w hs; try simp only [List.cons_append, List.nil_append, List.set_cons_zero, List.set_cons_succ] at hs)))
  refine Ch.region' 9 (fun wx => Rd wx (some ⟨g, 3, none⟩) HL ∧ Blk wx g5 NV 34) (fun | 5 => true | 6 => true | _ => false) (by kernel_rfl) (by decide +kernel) (⟨(R4.out _).cons _ _ hs.drew.hold, hs.drew.hold (.blk g5 34 NV) (by simp)⟩) ?_
  replace hs := hs.drew
  generalize w.drew = w at hs ⊢
  change Ch.CW _ _ _ _ _ [0, 1, 2, 3, 4, 5, 6, 7, 8] _ _
  iterate 5 ((first | (refine Ch.pure (v := ?_) (by rfl) (by rfl) (by rfl) (fun wx hS => ?_) ?_; rotate_left; (focus (go_simp; (first | done | with_reducible rfl)))) | refine Ch.pure (v := _) (by rfl) (by rfl) (by rfl) (fun wx hS => Se.xla rfl rfl hS.1 (by rw [HLL.out]; kernel_rfl) (by decide +kernel)) ?_ | refine Ch.pure (v := _) (by rfl) (by rfl) (by rfl) (fun wx hS => Se.xla rfl rfl (Li.Rd.of_blk hS.2) (by rw [NL.out]; kernel_rfl) (by decide +kernel)) ?_); (try simp only [Act.put, List.setIfInBounds_toArray, List.set_cons_zero, List.set_cons_succ]))
  refine Ch.noise (by rfl) (by rfl) (by rfl) (Se.bs1 hs rfl Tryz.underlying77 a32I3 (by decide) (by decide) rfl NL.out ?_)
  clear hs
  rintro w g49 - hs
  refine ⟨⟨((R4.out _).cons _).cons _ _ hs.hold, hs.hold (.blk g5 34 NV) (by simp)⟩, ?_⟩
  (try simp only [Act.put, List.setIfInBounds_toArray, List.set_cons_zero, List.set_cons_succ])
  refine Ch.noise (by rfl) (by rfl) (by rfl) ?_
  refine Se.gcall (f := 29) (args := #[.agg HL.toArray, .slice (some ⟨g49, 0, none⟩) 1 1]) ?_ ?_
  ·go_simp
  refine Calls.mono (CM.out _ _ _ _ hs) ?_
  clear hs
  rintro e w ⟨r2, A2, c2, rfl, hs⟩
  refine ⟨_, rfl, ⟨(((R4.out _).cons _).cons _).cons _ _ hs.hold, hs.hold (.blk g5 34 NV) (by simp)⟩, ?_⟩
  (try simp only [Act.put, List.setIfInBounds_toArray, List.set_cons_zero, List.set_cons_succ])
  iterate 2 (refine Ch.pure (v := ?_) (by rfl) (by rfl) (by rfl) (fun wx hS => ?_) ?_; rotate_left; (focus (go_simp; (first | done | with_reducible rfl))); (try simp only [Act.put, List.setIfInBounds_toArray, List.set_cons_zero, List.set_cons_succ]))
  refine Ch.done ?_
  try simp only [List.drop_succ_cons, List.drop_zero]
  go_wp2_with fail
  go_ret2
  refine ⟨r2, A2, c2, 40, by rw [HR.out]; exact ML.out.symm, by rw [HR.out]; rfl, ?_⟩
  rw [HR.out]
  simp only
  rw [← HV4.out]
  replace hs := hs.pull 3 rfl
  replace hs := hs.pull 1 rfl
  replace hs := hs.pull 3 rfl
  replace hs := hs.pull 3 rfl
  simp only [List.eraseIdx_cons_succ, List.eraseIdx_cons_zero] at hs
  exact hs.drop.drop
end Au
end Go.Proofs.YtakdoijemopejaaGreat
