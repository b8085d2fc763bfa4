/- Layer 45: over: the iterator shows the reference's paths. -/
import Derived.Test.YtplhelhijjmlaaaPathEach
import Derived.RangeFuncBound
set_option linter.unusedSimpArgs false
set_option linter.unusedVariables false
namespace Go.Proofs.Ytplhelhijjmlaaa
open Go Go.RowKit
namespace Pa
open Se (St At Reads Cell)
variable {w0 w : World} {X : List Nat} {L : List At} {D g off c : Nat} {p : PP}
set_option maxRecDepth 100000 in
theorem each_st (hs : St w0 X (pD D (some ⟨g, off, none⟩) c p :: pG g off c p :: L) w) (hp : OkP p) :
    Calls Try.prog 23 #[.pointer (some ⟨D, 0, none⟩)] w fun e w' => ∃ b D' g' off' c', e = .returned (.func (.func 44) #[] #[.pointer (some ⟨b, 0, none⟩)]) ∧ St w0 X (eachM D' g' off' c' b p ++ (pD D (some ⟨g, off, none⟩) c p :: pG g off c p :: L)) w' := by
  have HP := Lib.hid hp
  clear hp
  go_enter Try.func23, Try.ntmps23
  go_wp2_with (first | ((with_reducible refine Se.isL (o := ⟨some 3, _, _, _, _, _⟩) ?_); (refine Se.toL rfl (Se.al (o := ⟨some 3, _, _, _, _, _⟩) hs rfl ((show _ = some [Value.pointer none] from rfl)) ?_); clear hs; rintro w g3 - hs)) | ((with_reducible refine Se.isL (o := ⟨none, _, _, _, _, _⟩) ?_); ((first | refine Se.toL rfl (Se.so 0 (v := .int _ _) hs rfl rfl rfl rfl rfl (by kernel_rfl) (by simp) ?_) | refine Se.toL rfl (Se.so 0 (v := .bool _) hs rfl rfl rfl rfl rfl (by kernel_rfl) (by simp) ?_) | refine Se.toL rfl (Se.so 0 (v := .slice _ _ _) hs rfl rfl rfl rfl rfl (by kernel_rfl) (by simp) ?_) | refine Se.toL rfl (Se.so 0 (v := .pointer _) hs rfl rfl rfl rfl rfl (by kernel_rfl) (by simp) ?_) | refine Se.toL rfl (Se.so 0 (v := .string _) hs rfl rfl rfl rfl rfl (by kernel_rfl) (by simp) ?_) | refine Se.toL rfl (Se.so 0 (v := .map _) hs rfl rfl rfl rfl rfl (by kernel_rfl) (by simp) ?_) | refine Se.toL rfl (Se.so 0 (v := .func _ _ _) hs rfl rfl rfl rfl rfl (by kernel_rfl) (by simp) ?_) | refine Se.toL rfl (Se.so 0 (v := .nilFunc) hs rfl rfl rfl rfl rfl (by kernel_rfl) (by simp) ?_)); clear hs; intro w hs; try simp only [List.set_cons_zero] at hs)) | (go_at_call 28; refine Calls.mono (copy_st hs HP.out) ?_; clear hs; rintro e w ⟨D', g', off', c', rfl, hs⟩))
  go_ret
  exact ⟨g3, D', g', off', c', rfl, hs⟩
def enc2 (f : Nat → PS) (i : Nat) : Array Value := #[.int .i64 (i : Int), pv (f i)]
/-- What Each gives, as far as the caller sees. -/
def EachOk (w0 : World) (X : List Nat) (L : List At) (v : Value) (n : Nat) (f : Nat → PS) : Prop :=
  ∀ w, St w0 X L w → Calls Try.prog 23 #[v] w fun e w' => ∃ b M, e = .returned (.func (.func 44) #[] #[.pointer (some ⟨b, 0, none⟩)]) ∧
    Se.SeqSt Try.prog 44 #[.pointer (some ⟨b, 0, none⟩)] (enc2 f) (List.range n) (fun _ => M) M ∧ St w0 X (M ++ L) w'
set_option maxRecDepth 100000 in
theorem nf_eql (g : Fn) (x y : Array Value) (w : World) : (binOp .eql 50 (.func g x y) .nilFunc).run Try.prog w = .ok (.bool false) w := by rfl
theorem min_eq (a b : Int) (h : a ≤ b) : (a == if a < b then a else b) = true := by
  split <;> simp; omega
set_option maxRecDepth 100000 in
set_option maxHeartbeats 8000000 in
theorem over_gen {A : Option Addr} {v : Value} {q : PP} {n : Nat} {f : Nat → PS} (hs : St w0 X L w) (hm : At.rd A (cells q.l) ∈ L) (hE : ∀ L', EachOk w0 X (L' ++ L) v n f) (hn1 : 1 ≤ n) (hn2 : n ≤ 32) (hq : OkP q) (hqn : q.l.length = n) (hf : ∀ i, i < n → (f i).on = (q.l.getD i dead).on ∧ (f i).b = (q.l.getD i dead).b) (many : Int) :
    Calls Try.prog 31 #[v, rv q A c, .int .i64 many] w fun e w' => e = .returned (.bool true) ∧ St w0 X L w' := by
  obtain ⟨g, off, rfl⟩ := rd_some hs hm hq
  have HM := Lib.hid hm
  have HE := Lib.hid hE
  have HQ := Lib.hid hq
  have HF := Lib.hid hf
  have hx0 := nf_eql
  rw [show rv q (some ⟨g, off, none⟩) c = .agg #[.int .i64 q.tries, .slice (some ⟨g, off, none⟩) n c] by rw [← hqn]]
  have HN := Lib.hid hqn
  generalize q.tries = tr
  clear hm hE hq hf hqn
  refine Se.enterM Try.func31 rfl ?_
  simp only [Try.ntmps31, List.size_toArray, List.length_cons, List.length_nil, Nat.reduceAdd, Nat.reduceSub, Array.replicate_succ, Array.replicate_zero, List.push_toArray, List.append_toArray, List.nil_append, List.cons_append]
  go_wp2_with (first | ((with_reducible refine Se.isL (o := ⟨some 6, _, _, _, _, _⟩) ?_); (refine Se.toL rfl (Se.al (o := ⟨some 6, _, _, _, _, _⟩) hs rfl ((show _ = some [Value.bool false] from rfl)) ?_); clear hs; rintro w g6 - hs)) | ((with_reducible refine Se.isL (o := ⟨some 8, _, _, _, _, _⟩) ?_); (refine Se.toL rfl (Se.al (o := ⟨some 8, _, _, _, _, _⟩) hs rfl ((show _ = some [Value.int .i64 0] from rfl)) ?_); clear hs; rintro w g8 - hs)) | ((with_reducible refine Se.isL (o := ⟨none, Op.store 3 _ _, _, _, _, _⟩) ?_); ((first | refine Se.toL rfl (Se.so 0 (v := .int _ _) hs rfl rfl rfl rfl rfl (by kernel_rfl) (by simp) ?_) | refine Se.toL rfl (Se.so 0 (v := .bool _) hs rfl rfl rfl rfl rfl (by kernel_rfl) (by simp) ?_) | refine Se.toL rfl (Se.so 0 (v := .slice _ _ _) hs rfl rfl rfl rfl rfl (by kernel_rfl) (by simp) ?_) | refine Se.toL rfl (Se.so 0 (v := .pointer _) hs rfl rfl rfl rfl rfl (by kernel_rfl) (by simp) ?_) | refine Se.toL rfl (Se.so 0 (v := .string _) hs rfl rfl rfl rfl rfl (by kernel_rfl) (by simp) ?_) | refine Se.toL rfl (Se.so 0 (v := .map _) hs rfl rfl rfl rfl rfl (by kernel_rfl) (by simp) ?_) | refine Se.toL rfl (Se.so 0 (v := .func _ _ _) hs rfl rfl rfl rfl rfl (by kernel_rfl) (by simp) ?_) | refine Se.toL rfl (Se.so 0 (v := .nilFunc) hs rfl rfl rfl rfl rfl (by kernel_rfl) (by simp) ?_)); clear hs; intro w hs; try simp only [List.set_cons_zero] at hs)) | ((first | with_reducible refine Se.ab hs ?_ | with_reducible refine Se.abc hs ?_); clear hs; (first | ((fail_if_success (have _q := g4)); generalize w.heap.size = g4; intro w hs) | (generalize w.heap.size = g5; intro w hs))) | (go_at_call 23; refine Calls.mono (HE.out [_, _, _] w hs) ?_; clear hs; rintro e w ⟨b, M, rfl, HSeq, hs⟩))
  have hs := (hs.dup (A := some ⟨g, off, none⟩) (xs := cells q.l) (by simp only [List.mem_cons, List.mem_append, HM.out, or_true])).perm (L' := [.rd (some ⟨g, off, none⟩) (cells q.l), .blk g8 3 [.int .i64 ((0 : Nat) : Int)], .blk g6 4 [.bool false], .blk g5 3 [.int .i64 many], .blk g4 59 [.int .i64 tr, .slice (some ⟨g, off, none⟩) n c]] ++ (M ++ L)) (by
    refine List.Perm.cons _ (List.Perm.cons _ ?_)
    exact List.perm_append_comm_assoc M _ L)
  refine Se.rangeSt (lb := #[.pointer (some ⟨b, 0, none⟩)]) hs rfl (Go.Proofs.enters_of Try.func44 (by kernel_rfl) rfl) HSeq (fun _ => rfl)
    (fun k Lb => (k = 0 ∨ (k : Int) < many) ∧ Lb = [.rd (some ⟨g, off, none⟩) (cells q.l), .blk g8 3 [.int .i64 (k : Int)], .blk g6 4 [.bool false], .blk g5 3 [.int .i64 many], .blk g4 59 [.int .i64 tr, .slice (some ⟨g, off, none⟩) n c]])
    (fun cd k Lb => cd = .exit 0 ∧ many ≤ (k : Int) + 1 ∧ (k = 0 ∨ (k : Int) < many) ∧ Lb = [.rd (some ⟨g, off, none⟩) (cells q.l), .blk g8 3 [.int .i64 ((k : Int) + 1)], .blk g6 4 [.bool false], .blk g5 3 [.int .i64 many], .blk g4 59 [.int .i64 tr, .slice (some ⟨g, off, none⟩) n c]])
    ⟨.inl rfl, rfl⟩ ?_ ?_ ?_
  · rintro l k x Lb w T hx ⟨hk, rfl⟩ hs
    obtain ⟨hkn, rfl⟩ : k < n ∧ k = x := by
      have h1 := (List.getElem?_eq_some_iff.1 hx)
      obtain ⟨h1, h2⟩ := h1
      rw [List.length_range] at h1
      rw [List.getElem_range] at h2
      exact ⟨h1, h2⟩
    obtain ⟨x0, hx0⟩ : ∃ x0, x0 = f k := ⟨_, rfl⟩
    have hfk := HF.out k hkn
    rw [← hx0] at hfk
    rw [show enc2 f k = #[.int .i64 (k : Int), .agg #[.bool x0.on, .int .i64 x0.b]] by rw [hx0]; rfl]
    simp only [List.cons_append, List.nil_append] at hs
    rw [Se.zip2]
    simp only [List.setIfInBounds_toArray, List.set_cons_zero, List.set_cons_succ]
    repeat (first | refine wpIn_block ?_ | refine wpIn_seq ?_)
    refine Se.regI (by repeat (first | exact Se.roundSt_out | exact Se.falsePost_out | refine Se.then_out ?_ | refine Se.block_out ?_)) (by rfl) ?_
    go_wp2_with fail
    (try simp only [Exit.then])
    repeat (first | refine wpIn_block ?_ | refine wpIn_seq ?_)
    refine Se.regI (by repeat (first | exact Se.roundSt_out | exact Se.falsePost_out | refine Se.then_out ?_ | refine Se.block_out ?_)) (by rfl) ?_
    go_wp2_with (first | ((with_reducible refine Se.isL (o := ⟨some 10, _, _, _, _, _⟩) ?_); (refine Se.toL rfl (Se.al (o := ⟨some 10, _, _, _, _, _⟩) hs rfl ((show _ = some [Value.bool false, Value.int .i64 0] from rfl)) ?_); clear hs; rintro w g10 - hs)) | ((with_reducible refine Se.isL (o := ⟨none, Op.store 53 _ _, _, _, _, _⟩) ?_); (refine Se.toL rfl (Se.sow 0 hs rfl rfl rfl rfl ((by simp [Value.oneCell'])) ((by kernel_rfl)) (rfl) ?_); clear hs; intro w hs; try simp only [List.set_cons_zero] at hs)))
    (try simp only [Exit.then])
    refine ⟨.blk g10 53 [.bool x0.on, .int .i64 x0.b] :: [.rd (some ⟨g, off, none⟩) (cells q.l), .blk g8 3 [.int .i64 (k : Int)], .blk g6 4 [.bool false], .blk g5 3 [.int .i64 many], .blk g4 59 [.int .i64 tr, .slice (some ⟨g, off, none⟩) n c]], hs, ?_⟩
    clear hs
    clear w T
    intro w T hs
    simp only [List.cons_append, List.nil_append] at hs
    have hkn' : (k : Int) < (n : Int) := by omega
    have hkd : decide ((n : Int) ≤ (k : Int)) = false := by simpa using hkn'
    have hkd2 : decide (n ≤ k) = false := by simpa using hkn
    have hkl : k < q.l.length := by have := HN.out; omega
    have RP := r_pathN HQ.out hkl (Reads.rd (L := .blk g10 53 [.bool x0.on, .int .i64 x0.b] :: .rd (some ⟨g, off, none⟩) (cells q.l) :: .blk g8 3 [.int .i64 (k : Int)] :: .blk g6 4 [.bool false] :: .blk g5 3 [.int .i64 many] :: .blk g4 59 [.int .i64 tr, .slice (some ⟨g, off, none⟩) n c] :: T) 1 rfl)
    have CA := RP.cell 0 (v := .bool x0.on) (by rw [hfk.1]; rfl)
    have CB := RP.cell 1 (v := .int .i64 x0.b) (by rw [hfk.2]; rfl)
    have SA := Lib.hid (show ∀ w', St w0 X (.blk g10 53 [.bool x0.on, .int .i64 x0.b] :: .rd (some ⟨g, off, none⟩) (cells q.l) :: .blk g8 3 [.int .i64 (k : Int)] :: .blk g6 4 [.bool false] :: .blk g5 3 [.int .i64 many] :: .blk g4 59 [.int .i64 tr, .slice (some ⟨g, off, none⟩) n c] :: T) w' → Li.Blk w' g10 [.bool x0.on, .int .i64 x0.b] 53 ∧ Li.Blk w' g8 [.int .i64 (k : Int)] 3 ∧ Li.Blk w' g4 [.int .i64 tr, .slice (some ⟨g, off, none⟩) n c] 59 ∧ w'.cell? ⟨g, off + k * 131, none⟩ = some (.bool x0.on) ∧ w'.cell? ⟨g, off + k * 131 + 1, none⟩ = some (.int .i64 x0.b) from fun _ h => ⟨h.hold (.blk g10 53 _) (by simp), h.hold (.blk g8 3 _) (by simp), h.hold (.blk g4 59 _) (by simp), CA _ h.hold, CB _ h.hold⟩)
    clear hfk hkl RP CA CB hx hx0
    repeat (first | refine wpIn_block ?_ | refine wpIn_seq ?_)
    refine Se.chI 27 (fun wx => Li.Blk wx g10 [.bool x0.on, .int .i64 x0.b] 53 ∧ Li.Blk wx g8 [.int .i64 (k : Int)] 3 ∧ Li.Blk wx g4 [.int .i64 tr, .slice (some ⟨g, off, none⟩) n c] 59 ∧ wx.cell? ⟨g, off + k * 131, none⟩ = some (.bool x0.on) ∧ wx.cell? ⟨g, off + k * 131 + 1, none⟩ = some (.int .i64 x0.b)) (fun  | _ => false) (by repeat (first | exact Se.roundSt_out | exact Se.falsePost_out | refine Se.then_out ?_ | refine Se.block_out ?_)) (by rfl) (by kernel_rfl) (by decide +kernel) (SA.out _ hs.drew) ?_
    replace hs := hs.drew
    generalize w.drew = w at hs ⊢
    change Ch.CW _ _ _ _ _ [0, 1, 2, 3, 4, 5, 6, 7, 8, 9, 10, 11, 12, 13, 14, 15, 16, 17, 18, 19, 20, 21, 22, 23, 24, 25, 26] _ _
    refine Ch.pure (v := .int .i64 (k : Int)) (by rfl) (by rfl) (by rfl) (fun wx hS => Se.xl rfl rfl (by rw [hS.2.1.cell]; rfl) (by kernel_rfl)) ?_
    (try simp only [Act.put, List.setIfInBounds_toArray, List.set_cons_zero, List.set_cons_succ])
    iterate 1 (refine Ch.pure (v := ?_) (by rfl) (by rfl) (by rfl) (fun wx hS => ?_) ?_; rotate_left; (focus (go_simp; (first | done | with_reducible rfl))); (try simp only [Act.put, List.setIfInBounds_toArray, List.set_cons_zero, List.set_cons_succ]))
    refine Ch.pure (v := .slice (some ⟨g, off, none⟩) n c) (by rfl) (by rfl) (by rfl) (fun wx hS => Se.xl rfl rfl (by rw [hS.2.2.1.cell]; rfl) (by kernel_rfl)) ?_
    (try simp only [Act.put, List.setIfInBounds_toArray, List.set_cons_zero, List.set_cons_succ])
    iterate 4 (refine Ch.pure (v := ?_) (by rfl) (by rfl) (by rfl) (fun wx hS => ?_) ?_; rotate_left; (focus (go_simp; (first | done | with_reducible rfl))); (try simp only [Act.put, List.setIfInBounds_toArray, List.set_cons_zero, List.set_cons_succ]))
    refine Ch.pure (v := .int .i64 (k : Int)) (by rfl) (by rfl) (by rfl) (fun wx hS => Se.xl rfl rfl (by rw [hS.2.1.cell]; rfl) (by kernel_rfl)) ?_
    (try simp only [Act.put, List.setIfInBounds_toArray, List.set_cons_zero, List.set_cons_succ])
    iterate 3 (refine Ch.pure (v := ?_) (by rfl) (by rfl) (by rfl) (fun wx hS => ?_) ?_; rotate_left; (focus (go_simp; (first | done | with_reducible rfl))); (try simp only [Act.put, List.setIfInBounds_toArray, List.set_cons_zero, List.set_cons_succ]))
    refine Ch.pure (v := .agg #[.bool x0.on, .int .i64 x0.b]) (by rfl) (by rfl) (by rfl) (fun wx hS => Se.xla rfl rfl (Li.Rd.of_blk hS.1) (by kernel_rfl) (by kernel_rfl)) ?_
    (try simp only [Act.put, List.setIfInBounds_toArray, List.set_cons_zero, List.set_cons_succ])
    iterate 1 (refine Ch.pure (v := ?_) (by rfl) (by rfl) (by rfl) (fun wx hS => ?_) ?_; rotate_left; (focus (go_simp; (first | done | with_reducible rfl))); (try simp only [Act.put, List.setIfInBounds_toArray, List.set_cons_zero, List.set_cons_succ]))
    refine Ch.pure (v := .slice (some ⟨g, off, none⟩) n c) (by rfl) (by rfl) (by rfl) (fun wx hS => Se.xl rfl rfl (by rw [hS.2.2.1.cell]; rfl) (by kernel_rfl)) ?_
    (try simp only [Act.put, List.setIfInBounds_toArray, List.set_cons_zero, List.set_cons_succ])
    refine Ch.pure (v := .int .i64 (k : Int)) (by rfl) (by rfl) (by rfl) (fun wx hS => Se.xl rfl rfl (by rw [hS.2.1.cell]; rfl) (by kernel_rfl)) ?_
    (try simp only [Act.put, List.setIfInBounds_toArray, List.set_cons_zero, List.set_cons_succ])
    iterate 2 (refine Ch.pure (v := ?_) (by rfl) (by rfl) (by rfl) (fun wx hS => ?_) ?_; rotate_left; (focus (go_simp; (first | done | with_reducible rfl))); (try simp only [Act.put, List.setIfInBounds_toArray, List.set_cons_zero, List.set_cons_succ]))
    refine Ch.pure (v := .bool x0.on) (by rfl) (by rfl) (by rfl) (fun wx hS => Se.xl rfl rfl hS.2.2.2.1 (by kernel_rfl)) ?_
    (try simp only [Act.put, List.setIfInBounds_toArray, List.set_cons_zero, List.set_cons_succ])
    iterate 1 (refine Ch.pure (v := ?_) (by rfl) (by rfl) (by rfl) (fun wx hS => ?_) ?_; rotate_left; (focus (go_simp; (first | done | with_reducible rfl))); (try simp only [Act.put, List.setIfInBounds_toArray, List.set_cons_zero, List.set_cons_succ]))
    refine Ch.pure (v := .slice (some ⟨g, off, none⟩) n c) (by rfl) (by rfl) (by rfl) (fun wx hS => Se.xl rfl rfl (by rw [hS.2.2.1.cell]; rfl) (by kernel_rfl)) ?_
    (try simp only [Act.put, List.setIfInBounds_toArray, List.set_cons_zero, List.set_cons_succ])
    refine Ch.pure (v := .int .i64 (k : Int)) (by rfl) (by rfl) (by rfl) (fun wx hS => Se.xl rfl rfl (by rw [hS.2.1.cell]; rfl) (by kernel_rfl)) ?_
    (try simp only [Act.put, List.setIfInBounds_toArray, List.set_cons_zero, List.set_cons_succ])
    iterate 2 (refine Ch.pure (v := ?_) (by rfl) (by rfl) (by rfl) (fun wx hS => ?_) ?_; rotate_left; (focus (go_simp; (first | done | with_reducible rfl))); (try simp only [Act.put, List.setIfInBounds_toArray, List.set_cons_zero, List.set_cons_succ]))
    refine Ch.pure (v := .int .i64 x0.b) (by rfl) (by rfl) (by rfl) (fun wx hS => Se.xl rfl rfl hS.2.2.2.2 (by kernel_rfl)) ?_
    (try simp only [Act.put, List.setIfInBounds_toArray, List.set_cons_zero, List.set_cons_succ])
    iterate 3 (refine Ch.pure (v := ?_) (by rfl) (by rfl) (by rfl) (fun wx hS => ?_) ?_; rotate_left; (focus (go_simp; (first | done | with_reducible rfl))); (try simp only [Act.put, List.setIfInBounds_toArray, List.set_cons_zero, List.set_cons_succ]))
    refine Ch.done ?_
    simp only [List.drop_succ_cons, List.drop_zero]
    change Code.wpIn (Se.WF (some l)) 0 Try.prog _ _ _ _
    refine wpIn_cond_false rfl (wpIn_skip ?_)
    have hs := hs.drop
    have hw := IntWalk.i64_in ((k : Int) + 1) (by omega)
    have hmm : many ≤ (k : Int) + 1 ∨ (decide (many ≤ (k : Int) + 1) = false ∧ (k : Int) + 1 < many) := by
      simp only [decide_eq_false_iff_not]; omega
    rcases hmm with hmk | ⟨hmd, hml⟩
    all_goals
      change Code.wpIn (Se.WF (some l)) 0 Try.prog _ _ _ _
      repeat (first | refine wpIn_block ?_ | refine wpIn_seq ?_)
      refine Se.regI (by repeat (first | exact Se.roundSt_out | exact Se.falsePost_out | refine Se.then_out ?_ | refine Se.block_out ?_)) (by rfl) ?_
      go_wp2_with (first | ((with_reducible refine Se.isL (o := ⟨some 45, _, _, _, _, _⟩) ?_); (refine Se.toL rfl (Se.ld (o := ⟨some 45, _, _, _, _, _⟩) hs rfl rfl (Cell.blk 1 rfl rfl) (by kernel_rfl) ?_))) | ((with_reducible refine Se.isL (o := ⟨none, Op.store 3 _ _, _, _, _, _⟩) ?_); ((first | refine Se.toL rfl (Se.so 1 (v := .int _ _) hs rfl rfl rfl rfl rfl (by kernel_rfl) (by simp) ?_) | refine Se.toL rfl (Se.so 1 (v := .bool _) hs rfl rfl rfl rfl rfl (by kernel_rfl) (by simp) ?_) | refine Se.toL rfl (Se.so 1 (v := .slice _ _ _) hs rfl rfl rfl rfl rfl (by kernel_rfl) (by simp) ?_) | refine Se.toL rfl (Se.so 1 (v := .pointer _) hs rfl rfl rfl rfl rfl (by kernel_rfl) (by simp) ?_) | refine Se.toL rfl (Se.so 1 (v := .string _) hs rfl rfl rfl rfl rfl (by kernel_rfl) (by simp) ?_) | refine Se.toL rfl (Se.so 1 (v := .map _) hs rfl rfl rfl rfl rfl (by kernel_rfl) (by simp) ?_) | refine Se.toL rfl (Se.so 1 (v := .func _ _ _) hs rfl rfl rfl rfl rfl (by kernel_rfl) (by simp) ?_) | refine Se.toL rfl (Se.so 1 (v := .nilFunc) hs rfl rfl rfl rfl rfl (by kernel_rfl) (by simp) ?_)); clear hs; intro w hs; try simp only [List.set_cons_zero, List.set_cons_succ] at hs)))
      (try simp only [Exit.then])
      repeat (first | refine wpIn_block ?_ | refine wpIn_seq ?_)
      refine Se.regI (by repeat (first | exact Se.roundSt_out | exact Se.falsePost_out | refine Se.then_out ?_ | refine Se.block_out ?_)) (by rfl) ?_
      go_wp2_with (first | ((with_reducible refine Se.isL (o := ⟨some 47, _, _, _, _, _⟩) ?_); (refine Se.toL rfl (Se.ld (o := ⟨some 47, _, _, _, _, _⟩) hs rfl rfl (Cell.blk 1 rfl rfl) (by kernel_rfl) ?_))) | ((with_reducible refine Se.isL (o := ⟨some 48, _, _, _, _, _⟩) ?_); (refine Se.toL rfl (Se.ld (o := ⟨some 48, _, _, _, _, _⟩) hs rfl rfl (Cell.blk 3 rfl rfl) (by kernel_rfl) ?_))))
      (try simp only [Exit.then])
    · refine wpIn_cond_true rfl (wpIn_exit ?_)
      exact ⟨_, ⟨rfl, hmk, hk, rfl⟩, hs⟩
    · refine wpIn_cond_false rfl (wpIn_skip ?_)
      have e : ((k + 1 : Nat) : Int) = (k : Int) + 1 := by omega
      exact ⟨_, ⟨.inr (by omega), rfl⟩, by rw [e]; exact hs⟩
  · rintro Dd Lb w ⟨hk, rfl⟩ hs
    have hnm : (n : Int) < many := by
      rw [List.length_range] at hk
      omega
    rw [List.length_range] at hs
    simp only [Exit.inBlock, Exit.then]
    go_at_K
    simp only [List.cons_append, List.nil_append] at hs
    go_wp2_with (first | ((with_reducible refine Se.isL (o := ⟨some 50, _, _, _, _, _⟩) ?_); (refine Se.toL rfl (Se.ld (o := ⟨some 50, _, _, _, _, _⟩) hs rfl rfl (Cell.blk 1 rfl rfl) (by kernel_rfl) ?_))) | ((with_reducible refine Se.isL (o := ⟨some 52, _, _, _, _, _⟩) ?_); (refine Se.toL rfl (Se.ld (o := ⟨some 52, _, _, _, _, _⟩) hs rfl rfl (Cell.blk 4 rfl rfl) (by kernel_rfl) ?_))) | ((with_reducible refine Se.isL (o := ⟨some 54, _, _, _, _, _⟩) ?_); (refine Se.toL rfl (Se.ld (o := ⟨some 54, _, _, _, _, _⟩) hs rfl rfl (Cell.blk 3 rfl rfl) (by kernel_rfl) ?_))) | ((with_reducible refine Se.isL (o := ⟨none, Op.store 4 _ _, _, _, _, _⟩) ?_); ((first | refine Se.toL rfl (Se.so 2 (v := .int _ _) hs rfl rfl rfl rfl rfl (by kernel_rfl) (by simp) ?_) | refine Se.toL rfl (Se.so 2 (v := .bool _) hs rfl rfl rfl rfl rfl (by kernel_rfl) (by simp) ?_) | refine Se.toL rfl (Se.so 2 (v := .slice _ _ _) hs rfl rfl rfl rfl rfl (by kernel_rfl) (by simp) ?_) | refine Se.toL rfl (Se.so 2 (v := .pointer _) hs rfl rfl rfl rfl rfl (by kernel_rfl) (by simp) ?_) | refine Se.toL rfl (Se.so 2 (v := .string _) hs rfl rfl rfl rfl rfl (by kernel_rfl) (by simp) ?_) | refine Se.toL rfl (Se.so 2 (v := .map _) hs rfl rfl rfl rfl rfl (by kernel_rfl) (by simp) ?_) | refine Se.toL rfl (Se.so 2 (v := .func _ _ _) hs rfl rfl rfl rfl rfl (by kernel_rfl) (by simp) ?_) | refine Se.toL rfl (Se.so 2 (v := .nilFunc) hs rfl rfl rfl rfl rfl (by kernel_rfl) (by simp) ?_)); clear hs; intro w hs; try simp only [List.set_cons_zero, List.set_cons_succ] at hs)))
    refine Se.leave1 (Se.St.mid (Lb := [_, _, _, _, _]) hs) ?_
    clear hs
    intro w hs
    refine Se.leave0 (Se.results_cell1 hs rfl rfl (Cell.blk 2 rfl rfl) (by kernel_rfl)) ⟨rfl, ?_⟩
    exact (hs.drop.drop.drop.drop.drop).sub (List.sublist_append_right _ _)
  · rintro Dd cd k Lb w hkn ⟨rfl, hm1, hk, rfl⟩ hs
    rw [List.length_range] at hkn
    have hk1 : (k : Int) + 1 ≤ n := by omega
    simp only [List.cons_append, List.nil_append] at hs
    have hkc : (k = 0 ∧ many ≤ 1) ∨ (1 ≤ k ∧ many = (k : Int) + 1) := by omega
    clear hm1 hk hkn
    rcases hkc with ⟨rfl, hm⟩ | ⟨hk, rfl⟩
    · go_wp2_with (first | ((with_reducible refine Se.isL (o := ⟨some 50, _, _, _, _, _⟩) ?_); (refine Se.toL rfl (Se.ld (o := ⟨some 50, _, _, _, _, _⟩) hs rfl rfl (Cell.blk 1 rfl rfl) (by kernel_rfl) ?_))) | ((with_reducible refine Se.isL (o := ⟨some 52, _, _, _, _, _⟩) ?_); (refine Se.toL rfl (Se.ld (o := ⟨some 52, _, _, _, _, _⟩) hs rfl rfl (Cell.blk 4 rfl rfl) (by kernel_rfl) ?_))) | ((with_reducible refine Se.isL (o := ⟨some 54, _, _, _, _, _⟩) ?_); (refine Se.toL rfl (Se.ld (o := ⟨some 54, _, _, _, _, _⟩) hs rfl rfl (Cell.blk 3 rfl rfl) (by kernel_rfl) ?_))) | ((with_reducible refine Se.isL (o := ⟨none, Op.store 4 _ _, _, _, _, _⟩) ?_); ((first | refine Se.toL rfl (Se.so 2 (v := .int _ _) hs rfl rfl rfl rfl rfl (by kernel_rfl) (by simp) ?_) | refine Se.toL rfl (Se.so 2 (v := .bool _) hs rfl rfl rfl rfl rfl (by kernel_rfl) (by simp) ?_) | refine Se.toL rfl (Se.so 2 (v := .slice _ _ _) hs rfl rfl rfl rfl rfl (by kernel_rfl) (by simp) ?_) | refine Se.toL rfl (Se.so 2 (v := .pointer _) hs rfl rfl rfl rfl rfl (by kernel_rfl) (by simp) ?_) | refine Se.toL rfl (Se.so 2 (v := .string _) hs rfl rfl rfl rfl rfl (by kernel_rfl) (by simp) ?_) | refine Se.toL rfl (Se.so 2 (v := .map _) hs rfl rfl rfl rfl rfl (by kernel_rfl) (by simp) ?_) | refine Se.toL rfl (Se.so 2 (v := .func _ _ _) hs rfl rfl rfl rfl rfl (by kernel_rfl) (by simp) ?_) | refine Se.toL rfl (Se.so 2 (v := .nilFunc) hs rfl rfl rfl rfl rfl (by kernel_rfl) (by simp) ?_)); clear hs; intro w hs; try simp only [List.set_cons_zero, List.set_cons_succ] at hs)))
      all_goals
        (try rw [min_eq 1 n (by omega)] at hs)
        refine Se.leave1 (Se.St.mid (Lb := [_, _, _, _, _]) hs) ?_
        clear hs
        intro w hs
        refine Se.leave0 (Se.results_cell1 hs rfl rfl (Cell.blk 2 rfl rfl) (by kernel_rfl)) ⟨rfl, ?_⟩
        exact (hs.drop.drop.drop.drop.drop).sub (List.sublist_append_right _ _)
    · have hk2 : 1 < (k : Int) + 1 := by omega
      go_wp2_with (first | ((with_reducible refine Se.isL (o := ⟨some 50, _, _, _, _, _⟩) ?_); (refine Se.toL rfl (Se.ld (o := ⟨some 50, _, _, _, _, _⟩) hs rfl rfl (Cell.blk 1 rfl rfl) (by kernel_rfl) ?_))) | ((with_reducible refine Se.isL (o := ⟨some 52, _, _, _, _, _⟩) ?_); (refine Se.toL rfl (Se.ld (o := ⟨some 52, _, _, _, _, _⟩) hs rfl rfl (Cell.blk 4 rfl rfl) (by kernel_rfl) ?_))) | ((with_reducible refine Se.isL (o := ⟨some 54, _, _, _, _, _⟩) ?_); (refine Se.toL rfl (Se.ld (o := ⟨some 54, _, _, _, _, _⟩) hs rfl rfl (Cell.blk 3 rfl rfl) (by kernel_rfl) ?_))) | ((with_reducible refine Se.isL (o := ⟨none, Op.store 4 _ _, _, _, _, _⟩) ?_); ((first | refine Se.toL rfl (Se.so 2 (v := .int _ _) hs rfl rfl rfl rfl rfl (by kernel_rfl) (by simp) ?_) | refine Se.toL rfl (Se.so 2 (v := .bool _) hs rfl rfl rfl rfl rfl (by kernel_rfl) (by simp) ?_) | refine Se.toL rfl (Se.so 2 (v := .slice _ _ _) hs rfl rfl rfl rfl rfl (by kernel_rfl) (by simp) ?_) | refine Se.toL rfl (Se.so 2 (v := .pointer _) hs rfl rfl rfl rfl rfl (by kernel_rfl) (by simp) ?_) | refine Se.toL rfl (Se.so 2 (v := .string _) hs rfl rfl rfl rfl rfl (by kernel_rfl) (by simp) ?_) | refine Se.toL rfl (Se.so 2 (v := .map _) hs rfl rfl rfl rfl rfl (by kernel_rfl) (by simp) ?_) | refine Se.toL rfl (Se.so 2 (v := .func _ _ _) hs rfl rfl rfl rfl rfl (by kernel_rfl) (by simp) ?_) | refine Se.toL rfl (Se.so 2 (v := .nilFunc) hs rfl rfl rfl rfl rfl (by kernel_rfl) (by simp) ?_)); clear hs; intro w hs; try simp only [List.set_cons_zero, List.set_cons_succ] at hs)))
      all_goals
        (try rw [min_eq ((k : Int) + 1) n hk1] at hs)
        refine Se.leave1 (Se.St.mid (Lb := [_, _, _, _, _]) hs) ?_
        clear hs
        intro w hs
        refine Se.leave0 (Se.results_cell1 hs rfl rfl (Cell.blk 2 rfl rfl) (by kernel_rfl)) ⟨rfl, ?_⟩
        exact (hs.drop.drop.drop.drop.drop).sub (List.sublist_append_right _ _)
end Pa
end Go.Proofs.Ytplhelhijjmlaaa
