/- Layer 45: Copy, Each and what it yields. -/
import Derived.Test.YtplhelhijjmlaaaPathRoute
import Derived.Test.YtplhelhijjmlaaaIter
import Derived.Laws.Cover3
import Derived.Scope
import Derived.WalkMore
set_option linter.unusedSimpArgs false
set_option linter.unusedVariables false
namespace Go.Proofs.Ytplhelhijjmlaaa
open Go Go.RowKit
namespace Pa
open Se (St At Reads Cell)
variable {w0 w : World} {X : List Nat} {L : List At} {D g off c : Nat} {p : PP}
theorem eql_nil (A : Option Addr) (n c : Nat) (w : World) : (binOp .eql 72 (.slice A n c) (.slice none 0 0)).run Try.prog w = .ok (.bool A.isNone) w := by
  simp [binOp, run_equal_slice_nil w 72 _ A n c Try.underlying72]
attribute [local go_sem] eql_nil
set_option maxRecDepth 100000 in
theorem clone_st (hs : St w0 X L w) (hp : OkP p) (hr : Reads L (some ⟨g, off, none⟩) (cells p.l)) :
    Calls Try.prog 54 #[.slice (some ⟨g, off, none⟩) p.l.length c] w fun e w' => ∃ g' off' c', e = .returned (.slice (some ⟨g', off', none⟩) p.l.length c') ∧ St w0 X (.own 131 (some g') (some ⟨g', off', none⟩) p.l.length c' (cells p.l) :: L) w' := by
  have HR := Lib.hid hr
  obtain ⟨z, hz1, hz2⟩ := iOne
  have Z1 := Lib.hid hz1
  have Z2 := Lib.hid hz2
  have CL := Lib.hid (cells_len hp)
  obtain ⟨cl, hcl⟩ : ∃ cl, cl = cells p.l := ⟨_, rfl⟩
  have CO := Lib.hid (show ∀ v ∈ cl, v.oneCell' = true by rw [hcl]; exact cells_one _)
  rw [← hcl] at CL HR
  rw [← hcl]
  obtain ⟨n, hn⟩ : ∃ n, n = p.l.length := ⟨_, rfl⟩
  have hn1 : 1 ≤ n := by rw [hn]; exact hp.n1
  have hn2 : n ≤ 32 := by rw [hn]; exact hp.n2
  rw [← hn] at CL ⊢
  clear hp hr hz1 hz2 hcl hn
  go_enter Try.func54, Try.ntmps54
  go_wp2_with (first | ((with_reducible refine Se.isL (o := ⟨some 5, _, _, _, _, _⟩) ?_); (refine Se.toL rfl (Se.bs0 (o := ⟨some 5, _, _, _, _, _⟩) hs rfl Try.underlying72 (by kernel_rfl) ?_); clear hs; rintro w g5 - hs; replace hs := hs.blk_own 131 0 0 (by simp) (Nat.le_refl _) (by decide); simp only [Nat.zero_mul, List.take_zero] at hs)) | ((with_reducible refine Se.isL (o := ⟨some 7, _, _, _, _, _⟩) ?_); (refine Se.toL rfl (Se.ap (o := ⟨some 7, _, _, _, _, _⟩) 0 hs rfl rfl rfl rfl ((HR.out.cons _)) Try.underlying72 Z1.out (Z2.out) (by decide) (CO.out) (CL.out) ((by omega)) ((by omega)) ?_); clear hs; rintro w r7 A7 c7 hs; try simp only [List.set_cons_zero] at hs; try simp only [Nat.zero_add, List.nil_append] at hs; try simp only [Nat.zero_add])))
  obtain ⟨g', off', rfl, rfl⟩ := hs.own_at 0 rfl (by omega)
  go_ret
  exact ⟨g', off', c7, rfl, hs⟩
set_option maxRecDepth 100000 in
theorem copy_st (hs : St w0 X (pD D (some ⟨g, off, none⟩) c p :: pG g off c p :: L) w) (hp : OkP p) :
    Calls Try.prog 28 #[.pointer (some ⟨D, 0, none⟩)] w fun e w' => ∃ D' g' off' c', e = .returned (.pointer (some ⟨D', 0, none⟩)) ∧ St w0 X (pD D' (some ⟨g', off', none⟩) c' p :: pG g' off' c' p :: pD D (some ⟨g, off, none⟩) c p :: pG g off c p :: L) w' := by
  have HP := Lib.hid hp
  clear hp
  go_enter Try.func28, Try.ntmps28
  go_upto_region 3 with (first | (go_at_call 53; refine Calls.mono (none_st hs HP.out) ?_; clear hs; rintro e w ⟨rfl, hs⟩))
  have HS := Lib.hid (show ∀ (L' : List At) (w' : World), St w0 X (L' ++ pD D (some ⟨g, off, none⟩) c p :: pG g off c p :: L) w' → Li.Blk w' D [.int .i64 p.tries, .slice (some ⟨g, off, none⟩) p.l.length c] 74 from fun _ _ h => h.hold (pD D (some ⟨g, off, none⟩) c p) (List.mem_append.2 (.inr List.mem_cons_self)))
  refine Ch.region' 12 (fun wx => Li.Blk wx D [.int .i64 p.tries, .slice (some ⟨g, off, none⟩) p.l.length c] 74) (fun | 8 => true | 10 => true | _ => false) (by kernel_rfl) (by decide +kernel) (HS.out [] _ hs.drew) ?_
  replace hs := hs.drew
  generalize w.drew = w at hs ⊢
  change Ch.CW _ _ _ _ _ [0, 1, 2, 3, 4, 5, 6, 7, 8, 9, 10, 11] _ _
  iterate 3 (refine Ch.pure (v := ?_) (by rfl) (by rfl) (by rfl) (fun wx hS => ?_) ?_; rotate_left; (focus (go_simp; (first | done | with_reducible rfl))); (try simp only [Act.put, List.setIfInBounds_toArray, List.set_cons_zero, List.set_cons_succ]))
  refine Ch.pure (v := .int .i64 p.tries) (by rfl) (by rfl) (by rfl) (fun wx hS => Se.xl rfl rfl (by rw [hS.cell]; rfl) (by kernel_rfl)) ?_
  (try simp only [Act.put, List.setIfInBounds_toArray, List.set_cons_zero, List.set_cons_succ])
  iterate 3 (refine Ch.pure (v := ?_) (by rfl) (by rfl) (by rfl) (fun wx hS => ?_) ?_; rotate_left; (focus (go_simp; (first | done | with_reducible rfl))); (try simp only [Act.put, List.setIfInBounds_toArray, List.set_cons_zero, List.set_cons_succ]))
  refine Ch.pure (v := .slice (some ⟨g, off, none⟩) p.l.length c) (by rfl) (by rfl) (by rfl) (fun wx hS => Se.xl rfl rfl (by rw [hS.cell]; rfl) (by kernel_rfl)) ?_
  (try simp only [Act.put, List.setIfInBounds_toArray, List.set_cons_zero, List.set_cons_succ])
  refine Ch.noise (by rfl) (by rfl) (by rfl) ?_
  refine Se.gcall (f := 54) (args := #[.slice (some ⟨g, off, none⟩) p.l.length c]) ?_ ?_
  · go_simp
  refine Calls.mono (clone_st hs HP.out (Reads.own 1 rfl)) ?_
  clear hs
  rintro e w ⟨g', off', c', rfl, hs⟩
  refine ⟨_, rfl, HS.out [_] _ hs, ?_⟩
  (try simp only [Act.put, List.setIfInBounds_toArray, List.set_cons_zero, List.set_cons_succ])
  iterate 1 (refine Ch.pure (v := ?_) (by rfl) (by rfl) (by rfl) (fun wx hS => ?_) ?_; rotate_left; (focus (go_simp; (first | done | with_reducible rfl))); (try simp only [Act.put, List.setIfInBounds_toArray, List.set_cons_zero, List.set_cons_succ]))
  refine Ch.noise (by rfl) (by rfl) (by rfl) (Se.bx hs rfl rfl (l := [.int .i64 p.tries, .slice (some ⟨g', off', none⟩) p.l.length c']) rfl ?_)
  clear hs
  rintro w D' - hs
  refine ⟨HS.out [_, _] _ hs, ?_⟩
  (try simp only [Act.put, List.setIfInBounds_toArray, List.set_cons_zero, List.set_cons_succ])
  iterate 1 (refine Ch.pure (v := ?_) (by rfl) (by rfl) (by rfl) (fun wx hS => ?_) ?_; rotate_left; (focus (go_simp; (first | done | with_reducible rfl))); (try simp only [Act.put, List.setIfInBounds_toArray, List.set_cons_zero, List.set_cons_succ]))
  refine Ch.done ?_
  simp only [List.drop_succ_cons, List.drop_zero]
  go_wp2_with fail
  go_ret
  exact ⟨D', g', off', c', rfl, hs⟩
/-- What the iterator yields: the paths, in order. -/
def pv (x : PS) : Value := .agg #[.bool x.on, .int .i64 x.b]
def encE (p : PP) (i : Nat) : Array Value := #[.int .i64 (i : Int), pv (p.l.getD i dead)]
abbrev eachM (D g off c b : Nat) (p : PP) : List At := [.blk b 29 [.pointer (some ⟨D, 0, none⟩)], pD D (some ⟨g, off, none⟩) c p, pG g off c p]
set_option maxRecDepth 100000 in
set_option maxHeartbeats 4000000 in
theorem each1_seq (b : Nat) (hp : OkP p) : Se.SeqSt Try.prog 44 #[.pointer (some ⟨b, 0, none⟩)] (encE p) (List.range p.l.length) (fun _ => eachM D g off c b p) (eachM D g off c b p) := by
  intro l w0 X J Jx hY T w h0 hs
  have HP := Lib.hid hp
  obtain ⟨n, hn⟩ : ∃ n, n = p.l.length := ⟨_, rfl⟩
  have hn1 : 1 ≤ n := by rw [hn]; exact hp.n1
  have hn2 : n ≤ 32 := by rw [hn]; exact hp.n2
  have HN := Lib.hid hn
  have HY := Lib.hid hY
  have H0 := Lib.hid h0
  obtain ⟨z, hz, hz2⟩ := zOne
  have Z := Lib.hid hz
  have ZL := Lib.hid hz2
  have hnc : n ≤ c := by
    have h : Se.Ow w 131 (some g) (some ⟨g, off, none⟩) p.l.length c (cells p.l) := hs.hold (pG g off c p) (by simp [eachM])
    rw [hn]; exact h.2.1
  rw [List.length_range]
  simp only [← hn]
  simp only [eachM, List.cons_append, List.nil_append] at hs
  clear hp hY h0 hz hz2
  rw [show (#[Value.func (.yield l) #[] #[]] ++ #[Value.pointer (some ⟨b, 0, none⟩)] : Array Value) = #[.func (.yield l) #[] #[], .pointer (some ⟨b, 0, none⟩)] from rfl]
  have HS := Lib.hid (show ∀ (w' : World), St w0 X (.blk b 29 [.pointer (some ⟨D, 0, none⟩)] :: pD D (some ⟨g, off, none⟩) c p :: pG g off c p :: T) w' → Li.Blk w' b [.pointer (some ⟨D, 0, none⟩)] 29 ∧ Li.Blk w' D [.int .i64 p.tries, .slice (some ⟨g, off, none⟩) n c] 74 from fun _ h => ⟨h.hold (.blk b 29 _) List.mem_cons_self, hn ▸ h.hold (pD D (some ⟨g, off, none⟩) c p) (List.mem_cons_of_mem _ List.mem_cons_self)⟩)
  clear hn
  go_enter Try.func44, Try.ntmps44
  refine wp_scope_straight ?_
  go_upto_region 1 with (first | ((with_reducible refine Se.isL (o := ⟨some 5, _, _, _, _, _⟩) ?_); (refine Se.toL rfl (Se.ld (o := ⟨some 5, _, _, _, _, _⟩) hs rfl rfl (Cell.blk 0 rfl rfl) (by kernel_rfl) ?_))))
  go_step3
  go_upto_region 1 with (first | ((with_reducible refine Se.isL (o := ⟨some 5, _, _, _, _, _⟩) ?_); (refine Se.toL rfl (Se.ld (o := ⟨some 5, _, _, _, _, _⟩) hs rfl rfl (Cell.blk 0 rfl rfl) (by kernel_rfl) ?_))))
  refine Ch.region' 17 (fun wx => Li.Blk wx b [.pointer (some ⟨D, 0, none⟩)] 29 ∧ Li.Blk wx D [.int .i64 p.tries, .slice (some ⟨g, off, none⟩) n c] 74) (fun  | _ => false) (by kernel_rfl) (by decide +kernel) (HS.out _ hs.drew) ?_
  replace hs := hs.drew
  generalize w.drew = w at hs ⊢
  change Ch.CW _ _ _ _ _ [0, 1, 2, 3, 4, 5, 6, 7, 8, 9, 10, 11, 12, 13, 14, 15, 16] _ _
  refine Ch.pure (v := .pointer (some ⟨D, 0, none⟩)) (by rfl) (by rfl) (by rfl) (fun wx hS => Se.xl rfl rfl (by rw [hS.1.cell]; rfl) (by kernel_rfl)) ?_
  (try simp only [Act.put, List.setIfInBounds_toArray, List.set_cons_zero, List.set_cons_succ])
  iterate 2 (refine Ch.pure (v := ?_) (by rfl) (by rfl) (by rfl) (fun wx hS => ?_) ?_; rotate_left; (focus (go_simp; (first | done | with_reducible rfl))); (try simp only [Act.put, List.setIfInBounds_toArray, List.set_cons_zero, List.set_cons_succ]))
  refine Ch.pure (v := .slice (some ⟨g, off, none⟩) n c) (by rfl) (by rfl) (by rfl) (fun wx hS => Se.xl rfl rfl (by rw [hS.2.cell]; rfl) (by kernel_rfl)) ?_
  (try simp only [Act.put, List.setIfInBounds_toArray, List.set_cons_zero, List.set_cons_succ])
  refine Ch.pure (v := .pointer (some ⟨D, 0, none⟩)) (by rfl) (by rfl) (by rfl) (fun wx hS => Se.xl rfl rfl (by rw [hS.1.cell]; rfl) (by kernel_rfl)) ?_
  (try simp only [Act.put, List.setIfInBounds_toArray, List.set_cons_zero, List.set_cons_succ])
  iterate 2 (refine Ch.pure (v := ?_) (by rfl) (by rfl) (by rfl) (fun wx hS => ?_) ?_; rotate_left; (focus (go_simp; (first | done | with_reducible rfl))); (try simp only [Act.put, List.setIfInBounds_toArray, List.set_cons_zero, List.set_cons_succ]))
  refine Ch.pure (v := .slice (some ⟨g, off, none⟩) n c) (by rfl) (by rfl) (by rfl) (fun wx hS => Se.xl rfl rfl (by rw [hS.2.cell]; rfl) (by kernel_rfl)) ?_
  (try simp only [Act.put, List.setIfInBounds_toArray, List.set_cons_zero, List.set_cons_succ])
  iterate 1 (refine Ch.pure (v := ?_) (by rfl) (by rfl) (by rfl) (fun wx hS => ?_) ?_; rotate_left; (focus (go_simp; (first | done | with_reducible rfl))); (try simp only [Act.put, List.setIfInBounds_toArray, List.set_cons_zero, List.set_cons_succ]))
  refine Ch.pure (v := .pointer (some ⟨D, 0, none⟩)) (by rfl) (by rfl) (by rfl) (fun wx hS => Se.xl rfl rfl (by rw [hS.1.cell]; rfl) (by kernel_rfl)) ?_
  (try simp only [Act.put, List.setIfInBounds_toArray, List.set_cons_zero, List.set_cons_succ])
  iterate 2 (refine Ch.pure (v := ?_) (by rfl) (by rfl) (by rfl) (fun wx hS => ?_) ?_; rotate_left; (focus (go_simp; (first | done | with_reducible rfl))); (try simp only [Act.put, List.setIfInBounds_toArray, List.set_cons_zero, List.set_cons_succ]))
  refine Ch.pure (v := .slice (some ⟨g, off, none⟩) n c) (by rfl) (by rfl) (by rfl) (fun wx hS => Se.xl rfl rfl (by rw [hS.2.cell]; rfl) (by kernel_rfl)) ?_
  (try simp only [Act.put, List.setIfInBounds_toArray, List.set_cons_zero, List.set_cons_succ])
  iterate 4 (refine Ch.pure (v := ?_) (by rfl) (by rfl) (by rfl) (fun wx hS => ?_) ?_; rotate_left; (focus (go_simp; (first | done | with_reducible rfl))); (try simp only [Act.put, List.setIfInBounds_toArray, List.set_cons_zero, List.set_cons_succ]))
  refine Ch.done ?_
  simp only [List.drop_succ_cons, List.drop_zero]
  go_wp2_with fail
  have M0 := Lib.hid (show ∀ T' : List At, eachM D g off c b p ++ T' = .blk b 29 [.pointer (some ⟨D, 0, none⟩)] :: pD D (some ⟨g, off, none⟩) c p :: pG g off c p :: T' from fun _ => rfl)
  go_loopg [23] n (fun gh s23 wr => ∃ (i : Nat) (T' : List At), gh = n - i ∧ i ≤ n ∧ s23 = .int .i64 i ∧ Hid (J i T') ∧ St w0 X (.blk b 29 [.pointer (some ⟨D, 0, none⟩)] :: pD D (some ⟨g, off, none⟩) c p :: pG g off c p :: T') wr)
  case atStart => exact ⟨0, T, rfl, by omega, rfl, H0, hs⟩
  case round =>
    clear hs H0 HS T
    rename World => w
    obtain ⟨i, T, rfl, hi, rfl, HJ, hs⟩ := hrel
    by_cases hlt : i < n
    · have hlt' : (i : Int) < (n : Int) := by omega
      have hil : i < p.l.length := by have := HN.out; omega
      have hok := okN HP.out hil
      obtain ⟨x, hx⟩ : ∃ x, x = p.l.getD i dead := ⟨_, rfl⟩
      rw [← hx] at hok
      obtain ⟨xs, hxs⟩ : ∃ xs, cS x = xs := ⟨_, rfl⟩
      have XL := Lib.hid (show xs.length = 131 by rw [← hxs]; exact cS_length hok)
      have XO := Lib.hid (show ∀ v ∈ xs, v.oneCell' = true by rw [← hxs]; exact cS_one _)
      have X0 := Lib.hid (show xs.take 2 = [.bool x.on, .int .i64 x.b] by rw [← hxs]; rfl)
      have RP := Lib.hid (show ∀ L : List At, Reads L (some ⟨g, off, none⟩) (cells p.l) → Reads L (some ⟨g, off + i * 131, none⟩) xs from fun _ h => hxs ▸ hx ▸ r_pathN HP.out hil h)
      have YY := Lib.hid (show ∀ W, St w0 X (eachM D g off c b p ++ T) W → _ from fun W h => HY.out i i (by rw [List.getElem?_range hil]) T W HJ.out h)
      have HE := Lib.hid (show encE p i = #[.int .i64 i, .agg #[.bool x.on, .int .i64 x.b]] by unfold encE pv; rw [hx])
      clear hok hxs hx hil
      go_upto_region 4 with (first | ((with_reducible refine Se.isL (o := ⟨some 27, _, _, _, _, _⟩) ?_); (refine Se.toL rfl (Se.ldw (o := ⟨some 27, _, _, _, _, _⟩) hs rfl rfl ((RP.out _ (Reads.own 2 rfl))) ((by rw [XL.out]; kernel_rfl)) (by kernel_rfl) ?_))) | ((with_reducible refine Se.isL (o := ⟨some 4, _, _, _, _, _⟩) ?_); (refine Se.toL rfl (Se.al (o := ⟨some 4, _, _, _, _, _⟩) hs rfl (Z.out) ?_); clear hs; rintro w g4 - hs)) | ((with_reducible refine Se.isL (o := ⟨none, Op.store 84 _ _, _, _, _, _⟩) ?_); (refine Se.toL rfl (Se.sow 0 hs rfl rfl rfl rfl (XO.out) ((by rw [XL.out]; kernel_rfl)) ((by rw [XL.out, ZL.out])) ?_); clear hs; intro w hs; try simp only [List.set_cons_zero] at hs)))
      refine (Se.wp_WF (n := 0)).1 (wpIn_region_lit ?_)
      iterate 3 (refine Se.qLI (by intro _ h; cases h) (by rfl) (v := ?_) ?_ ?_; rotate_left; (focus (go_simp; (first | done | with_reducible rfl))); (try simp only [Act.put, List.setIfInBounds_toArray, List.set_cons_zero, List.set_cons_succ]))
      refine Se.toLI (by intro _ h; cases h) (by rfl) (Se.lda hs rfl rfl (Reads.blk 0 rfl) (n := 2) (by kernel_rfl) (by kernel_rfl) (by rw [XL.out]; decide) ?_)
      (try simp only [Act.put, List.setIfInBounds_toArray, List.set_cons_zero, List.set_cons_succ])
      rw [X0.out]
      have hs := hs.drop
      have hw := IntWalk.i64_in ((i : Int) + 1) (by omega)
      refine Se.ylI (by intro _ h; cases h) (by rfl) (l := l) (args := #[.int .i64 i, .agg #[.bool x.on, .int .i64 x.b]]) (by go_simp) (Se.yieldMono (YY.out w hs) HE.out ?_)
      clear hs
      rintro e w (⟨rfl, T', HJ', hs⟩ | ⟨rfl, T', HJ', hs⟩)
      · have HJ' := Lib.hid HJ'
        refine ⟨_, rfl, ?_⟩
        (try simp only [Act.put, List.setIfInBounds_toArray, List.set_cons_zero, List.set_cons_succ])
        iterate 1 (refine Se.qLI (by intro _ h; cases h) (by rfl) (v := ?_) ?_ ?_; rotate_left; (focus (go_simp; (first | done | with_reducible rfl))); (try simp only [Act.put, List.setIfInBounds_toArray, List.set_cons_zero, List.set_cons_succ]))
        refine wpListIn_nil ?_
        simp only [Exit.then]
        go_at_K
        go_wp2_with fail
        go_roundg (n - (i + 1))
        case measure => omega
        case rel => exact ⟨i + 1, T', rfl, by omega, by go_num, HJ', hs⟩
      · refine ⟨_, rfl, ?_⟩
        (try simp only [Act.put, List.setIfInBounds_toArray, List.set_cons_zero, List.set_cons_succ])
        iterate 1 (refine Se.qLI (by intro _ h; cases h) (by rfl) (v := ?_) ?_ ?_; rotate_left; (focus (go_simp; (first | done | with_reducible rfl))); (try simp only [Act.put, List.setIfInBounds_toArray, List.set_cons_zero, List.set_cons_succ]))
        refine wpListIn_nil ?_
        simp only [Exit.then]
        go_at_K
        go_wp2_with fail
        exact ⟨rfl, _, results_none rfl _ _ _, ⟨_, rfl⟩, .inr ⟨i, hlt, T', HJ', hs⟩⟩
    · obtain rfl : i = n := by omega
      go_wp2_with fail
      refine ⟨rfl, _, results_none rfl _ _ _, ⟨_, rfl⟩, .inl ⟨T, HJ.out, hs⟩⟩
end Pa
end Go.Proofs.Ytplhelhijjmlaaa
