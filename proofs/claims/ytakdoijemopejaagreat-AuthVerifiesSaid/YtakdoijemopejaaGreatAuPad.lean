/- Layer 1's Pad as layer 38 uses it, and a party's validity. No condition but Go's own limits. -/
import Derived.Test.YtakdoijemopejaaGreatAuMsg
import Derived.Test.YtakdoijemopejaaGreatAuRep
import Derived.Deep.AppendSrc
set_option linter.unusedSimpArgs false
set_option linter.unusedVariables false
namespace Go.Proofs.YtakdoijemopejaaGreat
open Go Go.RowKit
namespace Au
open Se (St At Reads Cell)
open Li (v8 v8_one Rd Blk Fr)
open Bv (n8 n16 n32 n64)
variable {w0 w : World} {X : List Nat} {L : List At}
attribute [local irreducible] Calls
/-- A string's bytes in a row of their own, whose end bears the run-time's mark. -/
def sFp (g : Nat) (s : ByteArray) (c : Nat) (w : World) : Prop := ∃ l : List Value, w.heap[g]? = some (.cells l.toArray 5 (l.length, l.length + 1)) ∧ l.length = c ∧ s.size ≤ c ∧ l.take s.size = (sB s).map v8
theorem sFp_lt {g : Nat} {s : ByteArray} {c : Nat} : ∀ w, sFp g s c w → ∀ b ∈ [g], b < w.heap.size := by
 rintro w ⟨l, h, _⟩ b hb
 rw [List.mem_singleton.1 hb]
 exact (Array.getElem?_eq_some_iff.1 h).1
theorem sFp_keep {g : Nat} {s : ByteArray} {c : Nat} : ∀ w w' : World, sFp g s c w → (∀ b ∈ [g], w'.heap[b]? = w.heap[b]?) → sFp g s c w' := by
 rintro w w' ⟨l, h, h2⟩ k
 exact ⟨l, by rw [k g (by simp), h], h2⟩
abbrev sF (g : Nat) (s : ByteArray) (c : Nat) : At := .abs [g] (sFp g s c) sFp_lt sFp_keep
theorem sF_rd {g : Nat} {s : ByteArray} {c : Nat} (w : World) (h : sFp g s c w) : Rd w (some ⟨g, 0, none⟩) ((sB s).map v8) := by
 obtain ⟨l, h1, h2, h3, h4⟩ := h
 refine .inr ⟨g, 0, rfl, fun i hi => ?_⟩
 rw [Nat.zero_add, cell_of_row _ _ i _ _ _ h1]
 rw [← h4] at hi ⊢
 rw [List.length_take] at hi
 simp [List.getElem?_take, show i < s.size by omega, show i < l.length by omega]
theorem sF_reads (g : Nat) (s : ByteArray) (c : Nat) : Reads (sF g s c :: L) (some ⟨g, 0, none⟩) ((sB s).map v8) := fun w hw => sF_rd w (hw _ List.mem_cons_self)
theorem cvtf {o : Oper} {a : Act} {G : Value → World → Prop} (hs : St w0 X L w) {x : Operand} (ho : o.op = .convert 9 22 x) {s : ByteArray} (hx : a.eval x = .string s)
  (h : ∀ (w' : World) (g c : Nat), St w0 X (sF g s c :: L) w' → G (.slice (some ⟨g, 0, none⟩) s.size c) w') : Hv.Gives Tryz.prog o a w G := by
 have hr := run_bytes_of_string w 9 22 5 s Tryz.underlying9 Tryz.underlying22 Tryz.underlying5
 have hcap := grownCap_ge w s.size 0 5
 obtain ⟨c, hc⟩ : ∃ c, c = grownCap w s.size 0 5 := ⟨_, rfl⟩
 rw [← hc] at hr hcap
 obtain ⟨R, hR⟩ : ∃ R, R = bytesRow s c := ⟨_, rfl⟩
 rw [← hR] at hr
 have hB : Below w.heap.size w (w.drew.alloc (.cells R 5 (R.size, R.size + 1))) := (show Below w.heap.size w w.drew from Hv.Ext.drew w).alloc (Nat.le_refl _) _
 have hf : (w.drew.alloc (.cells R 5 (R.size, R.size + 1))).heap[w.heap.size]? = some (.cells R 5 (R.size, R.size + 1)) := by
  show (w.heap.push _)[w.heap.size]? = _
  simp
 have hRs : R.size = c := by rw [hR]; simp [bytesRow]; omega
 unfold Hv.Gives execOp
 simp only [ho, hx, Sem.run_bind, hr, Result.andThen_ok, Sem.run_pure]
 refine h _ w.heap.size c (St.turn (P := []) (P' := [sF w.heap.size s c]) hs (Fr.ext hB) ?_ (by simp [At.noRd]) (by simp [Se.ownedL, At.owned]) (by simp [Se.ownedL, At.owned]))
 intro q hq
 rw [List.mem_singleton.1 hq]
 refine ⟨R.toList, by simpa using hf, by simpa using hRs, hcap, ?_⟩
 apply List.ext_getElem?
 intro i
 by_cases hi : i < s.size
 ·rw [List.getElem?_take, if_pos hi, hR, bytesRow_get s c i hi]
 ·rw [List.getElem?_eq_none (by simp; omega), List.getElem?_eq_none (by simp [sB_len]; omega)]
theorem apStr {o : Oper} {a : Act} {G : Value → World → Prop} {g c : Nat} {s s2 : ByteArray} (hs : St w0 X (sF g s c :: L) w) {x y : Operand} (ho : o.op = .call { callee := .builtin .append, args := #[x, y], argTypes := #[22, 9] }) (hx : a.eval x = .slice (some ⟨g, 0, none⟩) s.size c) (hy : a.eval y = .string s2) (hle : s.size + s2.size ≤ 1000)
  (h : ∀ (w' : World) (A : Option Addr) (c' : Nat), St w0 X L w' → G (.slice A (s.size + s2.size) c') w') : Hv.Gives Tryz.prog o a w G := by
 have hp : sFp g s c w := hs.hold _ List.mem_cons_self
 obtain ⟨l, h1, h2, h3, h4⟩ := hp
 obtain ⟨i, hi⟩ := Option.isSome_iff_exists.1 (show (Tryz.prog.info? 5).isSome = true by kernel_rfl)
 have hi3 : (i.zero, i.size, i.bytes) = (some (.int .u8 0), 1, 1) := by have := u8i3; rw [hi] at this; simpa using this
 simp only [Prod.mk.injEq] at hi3
 have hsrc := Src.ofString (P := Tryz.prog) w Tryz.underlying9 s2
 rw [← hi3.2.1] at hsrc
 unfold Hv.Gives execOp
 by_cases hroom : s.size + s2.size ≤ c
 ·have hr := run_append_room_src (P := Tryz.prog) w 22 9 o.type 5 i Tryz.underlying22 hi g 0 s.size c (.string s2) s2.size (byteCells s2) hsrc hroom
   (fun j hj => by rw [byteCells_length] at hj; rw [cell_of_row _ _ _ _ _ _ h1, hi3.2.1]; simp; omega)
   (fun j hj => by rw [byteCells_length] at hj; unfold World.frozen?; rw [hi3.2.1]; simp only [h1]; simp; omega)
  simp only [ho, resolve, invoke, builtin, Sem.run_bind, Sem.run_pure, Result.andThen_ok, List.map_toArray, List.map_cons, List.map_nil, hx, hy, hr]
  refine h _ _ _ (St.turn (P := [sF g s c]) (P' := []) hs ?_ (by simp) (by simp) (by simp [Se.ownedL]) (by simp [Se.ownedL]))
  refine ((Fr.refl _ w).setCells ?_ _ _)
  simp [Se.ownedL, At.owned]
 ·have hold : (Builtin.firstCells i.size s.size (.slice (some ⟨g, 0, none⟩) s.size c)).run Tryz.prog w.drew = .ok ((sB s).map v8).toArray w.drew := by
   refine run_firstCells_some w.drew i.size s.size ⟨g, 0, none⟩ s.size c ((sB s).map v8) (by rw [hi3.2.1]; simp [sB_len]) (fun j u hu => ?_)
   have := sF_rd w ⟨l, h1, h2, h3, h4⟩
   obtain ⟨g', off', e, hc⟩ := Rd_cell this j hu
   cases e
   rw [Addr.add_lit]
   simpa using hc
  have hr := run_append_grow_src (P := Tryz.prog) w 22 9 o.type 5 i (.int .u8 0) Tryz.underlying22 hi hi3.1 (some ⟨g, 0, none⟩) s.size c ((sB s).map v8) hold (.string s2) s2.size (byteCells s2) hsrc (by omega) (by omega) (growslice_fits (by omega) (by rw [hi3.2.2]; omega))
  simp only [ho, resolve, invoke, builtin, Sem.run_bind, Sem.run_pure, Result.andThen_ok, List.map_toArray, List.map_cons, List.map_nil, hx, hy, hr]
  refine h _ _ _ (hs.drop.ext ?_)
  exact (show Below w.heap.size w w.drew from Hv.Ext.drew w).alloc (Nat.le_refl _) _
theorem n8_lt (x : BitVec 8) (k : Nat) : (n8 x < (k : Int)) = (x.toNat < k) := by unfold n8; simp
theorem n8_le (x : BitVec 8) (k : Nat) : ((k : Int) ≤ n8 x) = (k ≤ x.toNat) := by unfold n8; simp
set_option maxRecDepth 100000 in
set_option maxHeartbeats 4000000 in
theorem plain_any (x : BitVec 8) (w : World) : Calls Tryz.prog 65 #[.int .u8 (n8 x)] w fun e w' => e = .returned (.bool (plainB x)) ∧ w' = w := by
 obtain ⟨k, hk⟩ : ∃ k, k = x.toNat := ⟨_, rfl⟩
 have hn : n8 x = (k : Int) := by rw [hk]; rfl
 have hp : plainB x = (decide (32 ≤ k) && decide (k ≤ 126)) := by rw [hk]; rfl
 rw [hn, hp]
 clear hn hp hk
 by_cases h1 : 32 ≤ k
 ·have d1 : decide ((32 : Int) ≤ (k : Int)) = true := by simp; omega
  have e1 : decide (32 ≤ k) = true := by simpa using h1
  rw [e1, Bool.true_and]
  obtain ⟨B, hB⟩ : ∃ B, B = decide (k ≤ 126) := ⟨_, rfl⟩
  have d2 : decide ((k : Int) ≤ 126) = B := by rw [hB]; simp; omega
  rw [← hB]
  clear h1 e1 hB
  go_enter Tryz.func65, Tryz.ntmps65
  go_wp2
  go_ret
  exact ⟨rfl, rfl⟩
 ·have d1 : decide ((32 : Int) ≤ (k : Int)) = false := by simp; omega
  have e1 : decide (32 ≤ k) = false := by simpa using h1
  rw [e1, Bool.false_and]
  clear h1 e1
  go_enter Tryz.func65, Tryz.ntmps65
  go_wp2
  go_ret
  exact ⟨rfl, rfl⟩
set_option maxRecDepth 100000 in
set_option maxHeartbeats 4000000 in
theorem pad1_any (x : BitVec 8) (w : World) : Calls Tryz.prog 64 #[.int .u8 (n8 x)] w fun e w' => e = .returned (.bool (!plainB x)) ∧ w' = w := by
 obtain ⟨b, hb⟩ : ∃ b, b = plainB x := ⟨_, rfl⟩
 have C := Lib.hid (fun w => plain_any x w)
 rw [← hb] at C ⊢
 clear hb
 go_enter Tryz.func64, Tryz.ntmps64
 go_wp2_with (go_at_call 65; refine Calls.mono (C.out _) ?_; rintro e w' ⟨rfl, rfl⟩)
 go_ret
 exact ⟨rfl, rfl⟩
set_option maxRecDepth 100000 in
set_option maxHeartbeats 4000000 in
theorem indexFunc_st (hs : St w0 X L w) {bs : Bs} {A : Option Addr} {n c : Nat} (hn : n = bs.length) (hA : Reads L A (bs.map v8)) (hle : n ≤ 70368744177664) :
  Calls Tryz.prog 72 #[.slice A n c, .func (.func 64) #[] #[]] w fun e w' => ∃ z : Int, e = .returned (.int .i64 z) ∧ decide (0 ≤ z) = !(bs.all plainB) ∧ St w0 X L w' := by
 have HN := Lib.hid hn
 have HA := Lib.hid hA
 clear hn hA
 go_enter Tryz.func72, Tryz.ntmps72
 go_wp2_with fail
 go_loopg [8] n (fun gh s8 wr => ∃ i : Nat, gh = n - i ∧ i ≤ n ∧ s8 = .int .i64 i ∧ Hid ((bs.take i).all plainB = true) ∧ St w0 X L wr)
 case atStart => exact ⟨0, rfl, by omega, rfl, Lib.hid rfl, hs⟩
 case round =>
  clear hs
  rename World => w
  obtain ⟨i, rfl, hi, rfl, HT, hs⟩ := hrel
  by_cases hlt : i < n
  ·have hlt' : (i : Int) < (n : Int) := by omega
   have hx : i < bs.length := by have := HN.out; omega
   obtain ⟨ga, oa, rfl, hca⟩ := Rd_cell (HA.out w hs.hold) i (v8_at bs i hx)
   obtain ⟨x, hxe⟩ : ∃ x, x = bs.getD i 0#8 := ⟨_, rfl⟩
   rw [← hxe] at hca
   have ex : bs[i] = x := by rw [hxe]; simp [hx]
   have C := Lib.hid (fun w => pad1_any x w)
   cases h0 : plainB x with
   | true =>
    rw [h0] at C
    have HT2 : Hid ((bs.take (i + 1)).all plainB = true) := Lib.hid (by rw [List.take_succ_eq_append_getElem hx, List.all_append, HT.out, ex]; simp [h0])
    clear hx ex hxe h0
    go_wp2_with (first | (go_at_call 64; refine Calls.mono (C.out _) ?_; rintro e w' ⟨rfl, rfl⟩))
    go_roundg (n - (i + 1))
    case measure => omega
    case rel => exact ⟨i + 1, rfl, by omega, by go_num, HT2, hs⟩
   | false =>
    rw [h0] at C
    have HZ : bs.all plainB = false := by
     rw [← Bool.not_eq_true, List.all_eq_true]
     intro h
     have := h bs[i] (List.getElem_mem hx)
     rw [ex, h0] at this
     cases this
    clear hx ex hxe h0
    go_wp2_with (first | (go_at_call 64; refine Calls.mono (C.out _) ?_; rintro e w' ⟨rfl, rfl⟩))
    go_ret
    exact ⟨i, rfl, by rw [HZ]; simp, hs⟩
  ·obtain rfl : i = n := by omega
   have HZ : bs.all plainB = true := by have := HT.out; rwa [List.take_of_length_le (by rw [← HN.out]; exact Nat.le_refl _)] at this
   go_wp2_with fail
   go_ret
   exact ⟨-1, rfl, by rw [HZ]; rfl, hs⟩
set_option maxRecDepth 100000 in
set_option maxHeartbeats 4000000 in
theorem containsFunc_st (hs : St w0 X L w) {bs : Bs} {A : Option Addr} {n c : Nat} (hn : n = bs.length) (hA : Reads L A (bs.map v8)) (hle : n ≤ 70368744177664) :
  Calls Tryz.prog 63 #[.slice A n c, .func (.func 64) #[] #[]] w fun e w' => e = .returned (.bool (!(bs.all plainB))) ∧ St w0 X L w' := by
 obtain ⟨b, hb⟩ : ∃ b, b = bs.all plainB := ⟨_, rfl⟩
 have C := Lib.hid (indexFunc_st hs (c := c) hn hA hle)
 rw [← hb] at C ⊢
 clear hn hA hb
 go_enter Tryz.func63, Tryz.ntmps63
 go_wp2_with (first | (go_at_call 72; refine Calls.mono (C.out) ?_; clear hs; rintro e w ⟨z, rfl, hz, hs⟩))
 go_ret
 exact ⟨by rw [← hz]; rfl, hs⟩
/-- The error of Pad. -/
def padE (s : ByteArray) : Nat := if (sB s).all plainB = false then 2 else if 223 < s.size then 5 else 0
set_option maxRecDepth 100000 in
set_option maxHeartbeats 4000000 in
theorem pad_st (hs : St w0 X L w) (s : ByteArray) (h240 : s.size ≤ 240) :
  Calls Tryz.prog 51 #[.string s, .int .i64 223] w fun e w' => ∃ A n c, e = .returned (.tuple #[.slice A n c, .int .i64 (padE s)]) ∧ St w0 X L w' := by
 have CC : Hid (∀ (g c : Nat) (w : World), St w0 X (sF g s c :: L) w → Calls Tryz.prog 63 #[.slice (some ⟨g, 0, none⟩) s.size c, .func (.func 64) #[] #[]] w fun e w' => e = .returned (.bool (!((sB s).all plainB))) ∧ St w0 X (sF g s c :: L) w') := Lib.hid (fun g c w hs => containsFunc_st hs (by rw [sB_len]) (sF_reads g s c) (by omega))
 have HE := Lib.hid (show padE s = if (sB s).all plainB = false then 2 else if 223 < s.size then 5 else 0 from rfl)
 obtain ⟨P, hP⟩ : ∃ P, P = (sB s).all plainB := ⟨_, rfl⟩
 obtain ⟨E, hE⟩ : ∃ E, E = padE s := ⟨_, rfl⟩
 rw [← hP] at CC HE
 rw [← hE] at HE ⊢
 clear hP hE
 have d0 : ¬ ((223 : Int) < 0) := by omega
 cases P with
 | false =>
  have HE := Lib.hid (show E = 2 by rw [HE.out]; rfl)
  clear d0
  go_enter Tryz.func51, Tryz.ntmps51
  go_wp2_with (first | (with_reducible refine Se.isL (o := ⟨some 8, _, _, _, _, _⟩) ?_; refine Se.toL rfl (cvtf (o := ⟨some 8, _, _, _, _, _⟩) hs rfl rfl ?_); clear hs; rintro w g8 c8 hs) | (go_at_call 63; refine Calls.mono (CC.out _ _ _ hs) ?_; clear hs; rintro e w ⟨rfl, hs⟩))
  go_ret2
  exact ⟨none, 0, 0, by rw [HE.out]; rfl, hs.drop⟩
 | true =>
  by_cases h3 : 223 < s.size
  ·have HE := Lib.hid (show E = 5 by rw [HE.out, if_neg (by simp), if_pos h3])
   have d3 : decide ((223 : Int) < (s.size : Int)) = true := by simp; omega
   clear d0 h3
   go_enter Tryz.func51, Tryz.ntmps51
   go_wp2_with (first | (with_reducible refine Se.isL (o := ⟨some 8, _, _, _, _, _⟩) ?_; refine Se.toL rfl (cvtf (o := ⟨some 8, _, _, _, _, _⟩) hs rfl rfl ?_); clear hs; rintro w g8 c8 hs) | (go_at_call 63; refine Calls.mono (CC.out _ _ _ hs) ?_; clear hs; rintro e w ⟨rfl, hs⟩))
   go_ret2
   exact ⟨none, 0, 0, by rw [HE.out]; rfl, hs.drop⟩
  ·have HE := Lib.hid (show E = 0 by rw [HE.out, if_neg (by simp), if_neg h3])
   have d3 : decide ((223 : Int) < (s.size : Int)) = false := by simp; omega
   have CR : Hid (∀ (g c : Nat) (w : World), St w0 X (sF g s c :: L) w → Calls Tryz.prog 66 #[.string ⟨#[32]⟩, .int .i64 ((223 : Int) - (s.size : Int))] w fun e w' => ∃ s2 : ByteArray, s2.size ≤ 223 ∧ e = .returned (.string s2) ∧ St w0 X (sF g s c :: L) w') := Lib.hid (fun g c w hs => by
    have h := strings_Repeat ⟨#[32]⟩ (223 - s.size) w (by omega) (by show 1 * _ ≤ _; omega)
    rw [show ((223 - s.size : Nat) : Int) = (223 : Int) - (s.size : Int) by omega] at h
    refine h.mono ?_
    rintro e w' ⟨rfl, hb⟩
    refine ⟨_, ?_, rfl, hs.ext hb⟩
    show (Lib.repeatL _ (223 - s.size)).toArray.size ≤ 223
    rw [List.size_toArray, Lib.repeatL_length]
    show (223 - s.size) * 1 ≤ 223
    omega)
   clear d0 h3
   go_enter Tryz.func51, Tryz.ntmps51
   go_wp2_with (first | (with_reducible refine Se.isL (o := ⟨some 8, _, _, _, _, _⟩) ?_; refine Se.toL rfl (cvtf (o := ⟨some 8, _, _, _, _, _⟩) hs rfl rfl ?_); clear hs; rintro w g8 c8 hs) | (go_at_call 63; refine Calls.mono (CC.out _ _ _ hs) ?_; clear hs; rintro e w ⟨rfl, hs⟩) | (go_at_call 66; refine Calls.mono (CR.out _ _ _ hs) ?_; clear hs; rintro e w ⟨s2, hs2, rfl, hs⟩) | (with_reducible refine Se.isL (o := ⟨some 31, _, _, _, _, _⟩) ?_; refine Se.toL rfl (apStr (o := ⟨some 31, _, _, _, _, _⟩) hs rfl rfl rfl (by omega) ?_); clear hs; rintro w A31 c31 hs))
   go_ret2
   exact ⟨A31, _, c31, by rw [HE.out]; rfl, hs⟩
def nameS (s : ByteArray) : Bool := decide (padE s = 0) && !decide (s.size = 0)
theorem nameS_eq (s : ByteArray) : nameS s = name (sB s) := by
 unfold nameS name padE
 rw [sB_len]
 cases h : (sB s).all plainB with
 | false => simp
 | true =>
  by_cases h2 : 223 < s.size
  ·simp [h2]
  ·simp [h2]; rw [Bool.eq_iff_iff]; simp; omega
theorem strEmpty (s : ByteArray) : s.toList.isEmpty = decide (s.size = 0) := by
 rw [ByteArray.toList_eq, Bool.eq_iff_iff, List.isEmpty_iff_length_eq_zero]
 simp
def nmS (p : Pn) (i : Nat) : ByteArray := if i = 0 then p.hs else p.sb
theorem int_ne {e : Nat} (h : e ≠ 0) : ((e : Int) != 0) = true := by simp; omega
set_option maxRecDepth 100000 in
set_option maxHeartbeats 4000000 in
theorem valid_st (hs : St w0 X L w) (p : Pn) (A : Option Addr) (c : Nat) (h1 : p.hs.size ≤ 240) (h2 : p.sb.size ≤ 240) (hk : p.sec.length ≤ 1000) :
  Calls Tryz.prog 38 #[.agg (pcl p A c).toArray] w fun e w' => e = .returned (.bool (valid p.py)) ∧ St w0 X L w' := by
 obtain ⟨PL, hPL⟩ : ∃ PL, PL = pcl p A c := ⟨_, rfl⟩
 have P0 := Lib.hid (show PL[0]? = some (.slice A p.sec.length c) by rw [hPL]; rfl)
 have P1 := Lib.hid (show PL[1]? = some (.string p.hs) by rw [hPL]; rfl)
 have P2 := Lib.hid (show PL[2]? = some (.string p.sb) by rw [hPL]; rfl)
 obtain ⟨V, hV⟩ : ∃ V, V = valid p.py := ⟨_, rfl⟩
 have HV := Lib.hid (show V = (nameS (nmS p 0) && nameS (nmS p 1) && decide (1 ≤ p.sec.length) && decide (p.sec.length ≤ 64)) by rw [hV, nameS_eq, nameS_eq]; rfl)
 have IX := Lib.hid (show ∀ i : Nat, i < 2 → ∀ wx : World, (Instr.index 101 (.agg #[.string p.hs, .string p.sb]) (.int .i64 (i : Int))).run Tryz.prog wx = .ok (.string (nmS p i)) wx by
  have a0 : ∀ wx : World, (Instr.index 101 (.agg #[.string p.hs, .string p.sb]) (.int .i64 0)).run Tryz.prog wx = .ok (.string p.hs) wx := fun wx => by kernel_rfl
  have a1 : ∀ wx : World, (Instr.index 101 (.agg #[.string p.hs, .string p.sb]) (.int .i64 1)).run Tryz.prog wx = .ok (.string p.sb) wx := fun wx => by kernel_rfl
  intro i hi
  match i, hi with
  | 0, _ => exact a0
  | 1, _ => exact a1)
 have SZ := Lib.hid (show ∀ i : Nat, (nmS p i).size ≤ 240 by intro i; unfold nmS; split <;> assumption)
 have hk := Lib.hid hk
 rw [← hPL, ← hV]
 clear hPL hV h1 h2
 go_enter Tryz.func38, Tryz.ntmps38
 go_wp2_with (first | ((with_reducible refine Se.isL (o := ⟨some 8, _, _, _, _, _⟩) ?_); (refine Se.toL rfl (Se.ld (o := ⟨some 8, _, _, _, _, _⟩) hs rfl rfl (Cell.blk 0 rfl P1.out) (by kernel_rfl) ?_))) | ((with_reducible refine Se.isL (o := ⟨some 10, _, _, _, _, _⟩) ?_); (refine Se.toL rfl (Se.ld (o := ⟨some 10, _, _, _, _, _⟩) hs rfl rfl (Cell.blk 0 rfl P2.out) (by kernel_rfl) ?_))) | ((with_reducible refine Se.isL (o := ⟨some 11, _, _, _, _, _⟩) ?_); (refine Se.toL rfl (Se.bd (o := ⟨some 11, _, _, _, _, _⟩) rfl rfl (strsI _ _ _) ?_))) | ((first | with_reducible refine Se.ab hs ?_ | with_reducible refine Se.abc hs ?_); clear hs; (first | (generalize w.heap.size = gp; intro w hs))))
 go_loopg [12] 2 (fun gh s12 wr => ∃ (i : Nat), gh = 2 - i ∧ i ≤ 2 ∧ s12 = .int .i64 i ∧ Hid (∀ j, j < i → nameS (nmS p j) = true) ∧ St w0 X (.blk gp 65 PL :: L) wr)
 case atStart => exact ⟨0, rfl, by omega, rfl, Lib.hid (fun j hj => by omega), hs⟩
 case round =>
  clear hs
  rename World => w
  obtain ⟨i, rfl, hi, rfl, HT, hs⟩ := hrel
  by_cases hlt : i < 2
  ·have hlt' : (i : Int) < 2 := by omega
   have hix := IX.out i hlt
   obtain ⟨s, hse⟩ : ∃ s, s = nmS p i := ⟨_, rfl⟩
   have C := Lib.hid (pad_st hs s (by rw [hse]; exact SZ.out i))
   rw [← hse] at hix
   obtain ⟨E, hE⟩ : ∃ E, E = padE s := ⟨_, rfl⟩
   rw [← hE] at C
   have hN : nameS s = (decide (E = 0) && !decide (s.size = 0)) := by rw [hE]; rfl
   have hF := Lib.hid (show nameS s = false → V = false by
    intro h
    rw [HV.out]
    rw [hse] at h
    match i, hlt with
    | 0, _ => rw [h]; rfl
    | 1, _ => rw [h]; simp)
   have HT2 := Lib.hid (show nameS s = true → ∀ j, j < i + 1 → nameS (nmS p j) = true by
    intro h j hj
    rcases Nat.lt_or_ge j i with h2 | h2
    ·exact HT.out j h2
    ·obtain rfl : j = i := by omega
     rw [← hse]; exact h)
   have hE2 := Lib.hid hN
   clear hN hE hse
   by_cases h0 : E = 0
   ·have hn : ((E : Int) != 0) = false := by rw [h0]; rfl
    have hm := strEmpty s
    by_cases h1 : s.size = 0
    ·rw [show decide (s.size = 0) = true by simpa using h1] at hm
     have HR := Lib.hid (show V = false from hF.out (by rw [hE2.out]; simp [h1]))
     clear h0 h1
     go_wp2_with (first | (go_at_call 51; refine Calls.mono (C.out) ?_; clear hs; rintro e w ⟨A2, n2, c2, rfl, hs⟩))
     go_ret
     exact ⟨by rw [HR.out]; rfl, hs.drop⟩
    ·rw [show decide (s.size = 0) = false by simpa using h1] at hm
     have HT3 := Lib.hid (HT2.out (by rw [hE2.out]; simp [h0, h1]))
     clear h0 h1
     go_wp2_with (first | (go_at_call 51; refine Calls.mono (C.out) ?_; clear hs; rintro e w ⟨A2, n2, c2, rfl, hs⟩))
     go_roundg (2 - (i + 1))
     case measure => omega
     case rel => exact ⟨i + 1, rfl, by omega, by go_num, HT3, hs⟩
   ·have hn := int_ne h0
    have HR := Lib.hid (show V = false from hF.out (by rw [hE2.out]; simp [h0]))
    clear h0
    go_wp2_with (first | (go_at_call 51; refine Calls.mono (C.out) ?_; clear hs; rintro e w ⟨A2, n2, c2, rfl, hs⟩))
    go_ret
    exact ⟨by rw [HR.out]; rfl, hs.drop⟩
  ·obtain rfl : i = 2 := by omega
   have HVV := HV.out
   rw [HT.out 0 (by omega), HT.out 1 (by omega)] at HVV
   simp only [Bool.true_and] at HVV
   obtain ⟨m, hm⟩ : ∃ m, m = p.sec.length := ⟨_, rfl⟩
   rw [← hm] at P0 HVV
   clear HV hm hi hlt
   by_cases h1 : 1 ≤ m
   ·by_cases h2 : m ≤ 64
    ·have d1 : decide ((1 : Int) ≤ (m : Int)) = true := by simp; omega
     have d2 : decide ((m : Int) ≤ 64) = true := by simp; omega
     have HR := Lib.hid (show V = true by rw [HVV]; simp [h1, h2])
     clear h1 h2 HVV
     go_wp2_with (first | ((with_reducible refine Se.isL (o := ⟨some 28, _, _, _, _, _⟩) ?_); (refine Se.toL rfl (Se.ld (o := ⟨some 28, _, _, _, _, _⟩) hs rfl rfl (Cell.blk 0 rfl P0.out) (by kernel_rfl) ?_))) | ((with_reducible refine Se.isL (o := ⟨some 33, _, _, _, _, _⟩) ?_); (refine Se.toL rfl (Se.ld (o := ⟨some 33, _, _, _, _, _⟩) hs rfl rfl (Cell.blk 0 rfl P0.out) (by kernel_rfl) ?_))))
     go_ret
     exact ⟨by rw [HR.out]; rfl, hs.drop⟩
    ·have d1 : decide ((1 : Int) ≤ (m : Int)) = true := by simp; omega
     have d2 : decide ((m : Int) ≤ 64) = false := by simp; omega
     have HR := Lib.hid (show V = false by rw [HVV]; simp [h2])
     clear h1 h2 HVV
     go_wp2_with (first | ((with_reducible refine Se.isL (o := ⟨some 28, _, _, _, _, _⟩) ?_); (refine Se.toL rfl (Se.ld (o := ⟨some 28, _, _, _, _, _⟩) hs rfl rfl (Cell.blk 0 rfl P0.out) (by kernel_rfl) ?_))) | ((with_reducible refine Se.isL (o := ⟨some 33, _, _, _, _, _⟩) ?_); (refine Se.toL rfl (Se.ld (o := ⟨some 33, _, _, _, _, _⟩) hs rfl rfl (Cell.blk 0 rfl P0.out) (by kernel_rfl) ?_))))
     go_ret
     exact ⟨by rw [HR.out]; rfl, hs.drop⟩
   ·have d1 : decide ((1 : Int) ≤ (m : Int)) = false := by simp; omega
    have HR := Lib.hid (show V = false by rw [HVV]; simp [h1])
    clear h1 HVV
    go_wp2_with (first | ((with_reducible refine Se.isL (o := ⟨some 28, _, _, _, _, _⟩) ?_); (refine Se.toL rfl (Se.ld (o := ⟨some 28, _, _, _, _, _⟩) hs rfl rfl (Cell.blk 0 rfl P0.out) (by kernel_rfl) ?_))))
    go_ret
    exact ⟨by rw [HR.out]; rfl, hs.drop⟩
end Au
end Go.Proofs.YtakdoijemopejaaGreat
