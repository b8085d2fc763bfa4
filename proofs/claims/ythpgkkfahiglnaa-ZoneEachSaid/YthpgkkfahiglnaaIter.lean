/- Ranges over a function in terms of pieces of memory: an iterator's contract, the statement's law, the walk in a round's frame. No condition but Go's own limits. -/
import Derived.Test.YthpgkkfahiglnaaBaseB
import Derived.RangeFuncSeq
import Derived.OrdersIn
import Derived.TacticsIn
import Derived.Shelf.Abstract
namespace Go.Proofs.Ythpgkkfahiglnaa
open Go Go.RowKit
namespace Se
open Li (Blk Rd Fr)
def WF (r : Option Nat) : Fence := { Fence.wide with round := r }
theorem WF_inRound (r : Option Nat) (l : Nat) : (WF r).inRound l = WF (some l) := rfl
section
variable {P : Program} {ops : Array Oper} {Q : Exit → Act → World → Prop} {a : Act} {w : World} {o : Oper} {r : Option Nat}
theorem callsIn_WF {f : FuncId} {args : Array Value} {R : Ending → World → Prop} {n : Nat} (h : Calls P f args w R) : CallsIn (WF r) n P f args w R :=
 (callsIn_wide (n := n)).2 h
theorem calls_WF {f : FuncId} {args : Array Value} {R : Ending → World → Prop} {n : Nat} (h : CallsIn (WF none) n P f args w R) : Calls P f args w R :=
 (callsIn_wide (n := n)).1 h
theorem wp_WF {c : Code} {n : Nat} : c.wpIn (WF none) n P Q a w ↔ c.wp P Q a w := wpIn_wide
theorem uponIn_of_upon {next : Act → World → Prop} {res : Result Next} (h : o.upon P a next Q res) : o.uponIn (WF r) 0 P a next Q res := by
 cases res with
 | ok n w' =>
  cases n
  case value v => exact h
  case skip => exact h
  case defer d => exact h
  case enter f args => exact ⟨fun h => by simp [WF, Fence.wide] at h, callsIn_WF h⟩
  case row row args =>
   refine ⟨fun h => by simp [WF, Fence.wide] at h, fun c cs _ => ?_⟩
   obtain ⟨v, w'', hR, hs⟩ := h c cs
   exact ⟨v, w'', hR, stepsIn_wide.2 hs⟩
  all_goals exact h.elim
 | halt x w' =>
  cases x <;> first | exact h | exact h.elim
theorem opIn {K : Act → World → Prop} (hd : ∀ c, o.op ≠ .defer c) (h : o.wp P a w K Q) : o.wpIn (WF r) 0 P a w K Q :=
 ⟨fun _ _ => trivial, by rw [Oper.semAt_eq _ _ _ hd]; exact uponIn_of_upon h⟩
def noDef (l : List Oper) : Bool := l.all fun o => match o.op with | .defer _ => false | _ => true
theorem noDef_of {l : List Oper} (h : noDef l = true) {o : Oper} (ho : o ∈ l) : ∀ c, o.op ≠ .defer c := by
 intro c e
 have := List.all_eq_true.1 h o ho
 simp [e] at this
theorem listIn (hL : LetsOut Q → False) : ∀ (l : List Oper) (a : Act) (w : World), (∀ o ∈ l, ∀ c, o.op ≠ .defer c) → wpList P ops Q l a w → wpListIn (WF r) 0 P ops Q l a w
 | [], _, _, _, h => h
 | o :: l, a, w, hd, h => by
  unfold wpList at h
  unfold wpListIn
  have ih := listIn hL l
  split at h
  ·rename_i hw
   rw [if_pos hw]
   rcases h with h | ⟨_, h⟩
   ·exact Oper.wpIn_mono (fun a w hk => ih a w (fun x hx => hd x (List.mem_cons_of_mem _ hx)) hk) (opIn (hd o List.mem_cons_self) h)
   ·exact (hL h).elim
  ·rename_i hw
   rw [if_neg hw]
   exact ⟨fun _ _ => trivial, ih _ _ (fun x hx => hd x (List.mem_cons_of_mem _ hx)) h⟩
theorem regI {id : Nat} {l : List Oper} (hL : LetsOut Q → False) (hd : noDef l = true) (h : wpList P l.toArray Q l a w) : (Code.region id l.toArray false).wpIn (WF r) 0 P Q a w :=
 wpIn_region_lit (listIn hL l a w (fun _ ho => noDef_of hd ho) h)
theorem opsIn1 {K K' : Act → World → Prop} (hL : LetsOut Q → False) (hd : ∀ o ∈ ops.toList, ∀ c, o.op ≠ .defer c) {i : Nat} (hk : ∀ a w, K a w → K' a w) (h : wpOp P ops Q i K a w) : wpOpIn (WF r) 0 P ops Q i K' a w := by
 unfold wpOp at h
 unfold wpOpIn
 cases ho : ops[i]? with
 | none => rw [ho] at h; exact hk _ _ h
 | some o =>
  rw [ho] at h
  simp only at h ⊢
  split at h
  ·rename_i hw
   rw [if_pos hw]
   rcases h with h | ⟨_, h⟩
   ·refine Oper.wpIn_mono hk (opIn (hd o ?_) h)
    rw [Array.mem_toList_iff]
    exact Array.mem_of_getElem? ho
   ·exact (hL h).elim
  ·rename_i hw
   rw [if_neg hw]
   exact ⟨fun _ _ => trivial, hk _ _ h⟩
theorem anyIn {md : Region.Mode} (hL : LetsOut Q → False) (hd : ∀ o ∈ ops.toList, ∀ c, o.op ≠ .defer c) : ∀ (n : Nat) (listed : Array Bool) (a : Act) (w : World), wpAny P md ops Q n listed a w → wpAnyIn (WF r) 0 P md ops Q n listed a w
 | 0, _, _, _, h => h
 | n + 1, _, _, _, h => ⟨h.1, fun i hi => opsIn1 hL hd (fun a w hk => anyIn hL hd n _ a w hk) (h.2 i hi)⟩
theorem regAnyI {id : Nat} {l : List Oper} (hm : P.follows .mixedOrders = true) (hL : LetsOut Q → False) (hd : noDef l = true) (h : wpAny P .any l.toArray Q l.toArray.size (Array.replicate l.toArray.size false) a w.drew) : (Code.region id l.toArray true).wpIn (WF r) 0 P Q a w :=
 wpIn_region_any hm (anyIn hL (fun _ ho => noDef_of hd (by simpa using ho)) _ _ _ _ h)
theorem toLI {rest : List Oper} (hd : ∀ c, o.op ≠ .defer c) (hw : Region.wanted o (yielded ops a.tmps) = true) (h : Hv.Gives P o a w (fun v w' => wpListIn (WF r) 0 P ops Q rest (a.put o.dst v) w')) : wpListIn (WF r) 0 P ops Q (o :: rest) a w := by
 unfold wpListIn
 rw [if_pos hw]
 exact opIn hd (h.wp fun _ _ h => h)
theorem qLI {rest : List Oper} {v : Value} (hd : ∀ c, o.op ≠ .defer c) (hw : Region.wanted o (yielded ops a.tmps) = true) (hv : (execOp a.eval o).run P w = .ok (.value v) w) (h : wpListIn (WF r) 0 P ops Q rest (a.put o.dst v) w) : wpListIn (WF r) 0 P ops Q (o :: rest) a w :=
 toLI hd hw (by unfold Hv.Gives; rw [hv]; exact h)
theorem ylI {rest : List Oper} {l : Nat} {args : Array Value} (hd : ∀ c, o.op ≠ .defer c) (hw : Region.wanted o (yielded ops a.tmps) = true) (hx : (execOp a.eval o).run P w = (Instr.yield l args).run P w)
  (h : YieldAt (WF none) 0 P l args w fun e w' => ∃ v, e = .returned v ∧ wpListIn (WF none) 0 P ops Q rest (a.put o.dst v) w') : wpListIn (WF none) 0 P ops Q (o :: rest) a w := by
 unfold wpListIn
 rw [if_pos hw]
 refine ⟨fun _ _ => trivial, ?_⟩
 rw [Oper.semAt_eq _ _ _ hd, hx]
 obtain ⟨fn, tmps, assign, body, hy, hR⟩ := h
 rw [hy]
 exact ⟨fun h => by simp [WF, Fence.wide] at h, hR.mono fun e w' ⟨v, he, hk⟩ => by subst he; exact hk⟩
end
theorem yieldMono {P : Program} {F : Fence} {m l : Nat} {args args' : Array Value} {W : World} {R R' : Ending → World → Prop} (h : YieldAt F m P l args W R) (ha : args = args') (hr : ∀ e w', R e w' → R' e w') : YieldAt F m P l args' W R' := by
 subst ha
 obtain ⟨fn, tmps, assign, body, hy, hR⟩ := h
 exact ⟨fn, tmps, assign, body, hy, hR.mono hr⟩
/-! ### The loop's record and the block of its deferred calls as pieces -/
def lpc (l : Nat) (r : Loop) : At := .abs [l] (fun w => w.heap[l]? = some (.loop r))
 (fun w h b hb => by
  simp only [List.mem_singleton] at hb; subst hb
  exact (Array.getElem?_eq_some_iff.1 h).1)
 (fun w w' h hb => by rw [hb l (by simp)]; exact h)
def dpc (D : Nat) : At := .abs [D] (fun w => w.heap[D]? = some (.deferred (some [])))
 (fun w h b hb => by
  simp only [List.mem_singleton] at hb; subst hb
  exact (Array.getElem?_eq_some_iff.1 h).1)
 (fun w w' h hb => by rw [hb D (by simp)]; exact h)
section
variable {P : Program} {w0 w : World} {X : List Nat} {L : List At}
theorem fr_putObj (w : World) (g : Nat) (o : Obj) : Fr (· = g) w (w.putObj g o) :=
 ⟨rfl, rfl, rfl, by simp, fun _ _ hX => World.putObj_heap_other hX⟩
theorem St.putLoop {l : Nat} {r : Loop} (hs : St w0 X (lpc l r :: L) w) (r' : Loop) : St w0 X (lpc l r' :: L) (w.putObj l (.loop r')) := by
 have hl : w.heap[l]? = some (.loop r) := hs.hold (lpc l r) List.mem_cons_self
 refine St.turn (P := [lpc l r]) (P' := [lpc l r']) hs ((fr_putObj w l _).mono fun b _ hb => by simp [ownedL, At.owned, lpc]; exact hb) ?_ (by simp [At.noRd, lpc]) (by simp [ownedL, At.owned, lpc]) (by simp [ownedL, At.owned, lpc])
 simp only [List.mem_singleton, forall_eq]
 exact World.putObj_heap_same (Array.getElem?_eq_some_iff.1 hl).1
theorem St.loopAt {l : Nat} {r : Loop} (hs : St w0 X (lpc l r :: L) w) : w.heap[l]? = some (.loop r) := hs.hold (lpc l r) List.mem_cons_self
theorem St.newObj (hs : St w0 X L w) (o : Obj) {bs : List Nat} {φ : World → Prop} {h1 : ∀ w, φ w → ∀ b ∈ bs, b < w.heap.size} {h2 : ∀ w w' : World, φ w → (∀ b ∈ bs, w'.heap[b]? = w.heap[b]?) → φ w'} (hb : bs = [w.heap.size]) (hφ : φ (w.alloc o)) : St w0 X (.abs bs φ h1 h2 :: L) (w.alloc o) := by
 subst hb
 exact St.turn (P := []) (P' := [.abs _ φ h1 h2]) hs (Fr.ext (Hv.Ext.alloc _ _)) (by simp only [List.mem_singleton, forall_eq]; exact hφ) (by simp [At.noRd]) (by simp [ownedL, At.owned]) (by simp [ownedL, At.owned])
end
def SeqSt {α : Type} (P : Program) (gf : Nat) (lb : Array Value) (encs : α → Array Value) (xs : List α) (M : Nat → List At) (Me : List At) : Prop :=
 ∀ (l : Nat) (w0 : World) (X : List Nat) (J Jx : Nat → List At → Prop),
  (∀ k x, xs[k]? = some x → ∀ T W, J k T → St w0 X (M (k + 1) ++ T) W → YieldAt (WF none) 0 P l (encs x) W fun e W' =>
   (e = .returned (.bool true) ∧ ∃ T', J (k + 1) T' ∧ St w0 X (M (k + 1) ++ T') W') ∨ (e = .returned (.bool false) ∧ ∃ T', Jx k T' ∧ St w0 X (M (k + 1) ++ T') W')) →
  ∀ T W, J 0 T → St w0 X (M 0 ++ T) W →
   Calls P gf (#[.func (.yield l) #[] #[]] ++ lb) W fun e W' => (∃ v, e = .returned v) ∧ ((∃ T', J xs.length T' ∧ St w0 X (Me ++ T') W') ∨ ∃ k, k < xs.length ∧ ∃ T', Jx k T' ∧ St w0 X (M (k + 1) ++ T') W')
def roundSt (w0 : World) (X : List Nat) (T : List At) (J : List At → Prop) (Jx : Code → List At → Prop) : Exit → Act → World → Prop
 | .normal, _, W => ∃ L, J L ∧ St w0 X (L ++ T) W
 | .ret, _, W => ∃ L, Jx .ret L ∧ St w0 X (L ++ T) W
 | .exit id, _, W => ∃ L, Jx (.exit id) L ∧ St w0 X (L ++ T) W
 | .goto t, _, W => ∃ L, Jx (.goto t) L ∧ St w0 X (L ++ T) W
 | _, _, _ => False
theorem roundSt_out {w0 : World} {X : List Nat} {T : List At} {J : List At → Prop} {Jx : Code → List At → Prop} : LetsOut (roundSt w0 X T J Jx) → False := fun ⟨_, _, h⟩ => h
theorem then_out {K : Act → World → Prop} {Q : Exit → Act → World → Prop} (h : LetsOut Q → False) : LetsOut (Exit.then K Q) → False := fun ⟨a, w, hq⟩ => h ⟨a, w, hq⟩
theorem block_out {i : Nat} {Q : Exit → Act → World → Prop} (h : LetsOut Q → False) : LetsOut (Exit.inBlock i Q) → False := fun ⟨a, w, hq⟩ => h ⟨a, w, hq⟩
theorem falsePost_out : LetsOut (fun (_ : Exit) (_ : Act) (_ : World) => False) → False := fun ⟨_, _, h⟩ => h
theorem chI {P : Program} {Q : Exit → Act → World → Prop} {a : Act} {w : World} {r : Option Nat} {id : Nat} {l : List Oper} (n : Nat) (S : World → Prop) (N : Nat → Bool)
  (hL : LetsOut Q → False) (hd : noDef l = true) (hm : P.follows .mixedOrders = true) (hB : Ch.checkC l.toArray n N (Ch.chainOf l.toArray n N) = true) (hS : S w.drew)
  (h : Ch.CW P l.toArray S N (fun a' w' => wpList P l.toArray Q (l.drop n) a' w') (List.range n) a w.drew) : (Code.region id l.toArray true).wpIn (WF r) 0 P Q a w := by
 refine regAnyI hm hL hd ?_
 have hB' := hB
 simp only [Ch.checkC, Bool.and_eq_true, decide_eq_true_eq] at hB'
 have hn := hB'.1.1.1.1.1.2
 have inv0 : HeadInv .any l.toArray n (Array.replicate l.toArray.size false) :=
  ⟨by simp, fun j oj _ hl => (by rw [getD_replicate_false] at hl; cases hl), fun t _ ht => getD_in (by simpa using ht) (getD_replicate_false _ _)⟩
 have hdl : (l.drop n).length = l.toArray.size - n := by simp
 have := Ch.soundC (Q := Q) hB (fun listed a' w' hq hF => by
  have := wpAny_of_seq (md := .any) (Q' := Q) (l.drop n) n listed a' w' (fun j => by simp [List.getElem?_drop]) (by rw [hdl]; exact hq) hF
  rwa [hdl] at this) n (List.range n) a w.drew (Array.replicate l.toArray.size false) (by simp) inv0
  (fun j => by
   rw [List.mem_range]
   constructor
   ·intro hj; refine ⟨hj, ?_⟩
    have : j < l.toArray.size := by omega
    simp at this; simp [this]
   ·exact fun h => h.1)
  List.pairwise_lt_range h hS
 rw [show n + (l.toArray.size - n) = l.toArray.size by omega] at this
 exact this
theorem rangeSt {α : Type} {P : Program} {g : Operand} {ps : Array Tmp} {assign body : Code} {Q : Exit → Act → World → Prop} {a : Act} {w w0 : World} {X : List Nat} {L Lr : List At}
  {gf : Nat} {lb : Array Value} {encs : α → Array Value} {xs : List α} {M : Nat → List At} {Me : List At} (hs : St w0 X (L ++ (M 0 ++ Lr)) w) (hg : a.eval g = .func (.func gf) #[] lb) (eg : ∀ args w, (callFunc gf args).run P w = .ok (.enter gf args) w)
  (hseq : SeqSt P gf lb encs xs M Me) (hps : ∀ x, (encs x).size = ps.size) (J : Nat → List At → Prop) (Jx : Code → Nat → List At → Prop) (h0 : J 0 L)
  (hround : ∀ l k x L W T, xs[k]? = some x → J k L → St w0 X (L ++ T) W →
   assign.wpIn (WF (some l)) 0 P (Exit.then (fun a₁ W₁ => ∃ L₁, St w0 X (L₁ ++ T) W₁ ∧ ∀ W' T', St w0 X (L₁ ++ T') W' → body.wpIn (WF (some l)) 0 P (roundSt w0 X T' (J (k + 1)) (fun c => Jx c k)) a₁ W') (fun _ _ _ => False)) { tmps := (ps.zip (encs x)).foldl (fun t (p, v) => t.setIfInBounds p v) a.tmps, defers := [] } W)
  (hdone : ∀ D L W, J xs.length L → St w0 X (L ++ (Me ++ (dpc D :: Lr))) W → Q .normal { a with defers := { target := .collected D, args := #[] } :: a.defers } W)
  (hstop : ∀ D c k L W, k < xs.length → Jx c k L → St w0 X (L ++ (M (k + 1) ++ (dpc D :: Lr))) W → c.wp P Q { a with defers := { target := .collected D, args := #[] } :: a.defers } W) :
  (Code.rangeFunc g ps assign body).wp P Q a w := by
 refine (wp_WF (n := 0)).1 (wpIn_rangeFunc ?_)
 intro fn hfn
 obtain ⟨rec, hrec⟩ : ∃ rec : LoopState → Option Code → Loop, rec = fun st pe => { state := st, pending := pe, fn, tmps := a.tmps, params := ps, assign, body, defers := w.heap.size } := ⟨_, rfl⟩
 obtain ⟨l, hl⟩ : ∃ l, l = w.heap.size + 1 := ⟨_, rfl⟩
 obtain ⟨D, hD⟩ : ∃ D, D = w.heap.size := ⟨_, rfl⟩
 have hsD : St w0 X (dpc D :: (L ++ (M 0 ++ Lr))) (w.alloc (.deferred (some []))) := by
  refine hs.newObj _ (by rw [hD]) ?_
  rw [hD]; exact World.alloc_heap_new w _
 have hsl : St w0 X (lpc l (rec .ready none) :: dpc D :: (L ++ (M 0 ++ Lr))) ((w.alloc (.deferred (some []))).alloc (.loop (rec .ready none))) := by
  refine hsD.newObj _ (by rw [World.size_alloc, hl]) ?_
  have := World.alloc_heap_new (w.alloc (.deferred (some []))) (.loop (rec .ready none))
  rwa [World.size_alloc, ← hl] at this
 refine ⟨l, [{ target := .collected D, args := #[] }], (w.alloc (.deferred (some []))).alloc (.loop (rec .ready none)), { target := .fn (.func gf) lb, args := #[.func (.yield l) #[] #[]] }, (w.alloc (.deferred (some []))).alloc (.loop (rec .ready none)), gf,
  #[.func (.yield l) #[] #[]] ++ lb, (w.alloc (.deferred (some []))).alloc (.loop (rec .ready none)), ?_, ?_, ?_, ?_, fun h => by simp [WF, Fence.wide] at h, ?_⟩
 ·rw [hl, hD, hrec]; exact run_enterLoop_outer _ _ _ _ _
 ·simp only [resolve, hg]
  simp [go_sem]
 ·intro f' _; trivial
 ·simp [invoke, go_sem, eg]
 ·refine callsIn_WF ?_
  have perm1 : ∀ (r : Loop) (L' m : List At), (m ++ (L' ++ (lpc l r :: dpc D :: Lr))).Perm (L' ++ (lpc l r :: (dpc D :: Lr ++ m))) := fun r L' m => by
   refine (List.perm_append_comm).trans ?_
   rw [List.append_assoc]; rfl
  have perm2 : ∀ (r : Loop) (L' T : List At), (L' ++ (lpc l r :: T)).Perm (lpc l r :: (L' ++ T)) := fun _ _ _ => List.perm_middle
  refine (hseq l w0 X (fun k T => ∃ L', J k L' ∧ T = L' ++ (lpc l (rec .ready none) :: dpc D :: Lr)) (fun k T => ∃ c L', Jx c k L' ∧ T = L' ++ (lpc l (rec .done (some c)) :: dpc D :: Lr)) ?_ (L ++ (lpc l (rec .ready none) :: dpc D :: Lr)) _ ⟨L, h0, rfl⟩ (hsl.perm ?_)).mono ?_
  ·rintro k x hx T W ⟨L', hJ, rfl⟩ hW
   have hW1 := hW.perm (perm1 _ _ _)
   have hlo := (hW1.perm (perm2 _ _ _)).loopAt
   have hy := run_yield (P := P) (args := encs x) hlo (by rw [hrec]; exact hps x)
   rw [hrec] at hy
   refine ⟨fn, _, assign, body, hy, roundIn_of_wpIn trivial ?_⟩
   rw [WF_inRound]
   refine wpIn_mono (hround l k x L' W _ hx hJ hW1) ?_
   intro e a₁ W₁ hq
   cases e with
   | normal =>
    obtain ⟨L₁, hS1, hbd⟩ := hq
    have hS2 := hS1.perm (perm2 _ _ _)
    have hlo1 := hS2.loopAt
    refine ⟨_, run_beginRound hlo1 (by rw [hrec]), ?_⟩
    have hS3 := (hS2.putLoop { rec .ready none with state := .busy }).perm (perm2 _ _ _).symm
    refine wpIn_mono (hbd _ _ hS3) ?_
    have fin : ∀ (jump : Option Code) (L2 : List At) (W3 : World), St w0 X (L2 ++ (lpc l { rec .ready none with state := .busy } :: (dpc D :: Lr ++ M (k + 1)))) W3 →
      (Instr.endRound l jump).run P W3 = .ok (.bool jump.isNone) (W3.putObj l (.loop (rec (if jump.isNone then .ready else .done) jump))) ∧
      St w0 X (M (k + 1) ++ (L2 ++ (lpc l (rec (if jump.isNone then .ready else .done) jump) :: dpc D :: Lr))) (W3.putObj l (.loop (rec (if jump.isNone then .ready else .done) jump))) := fun jump L2 W3 h3 => by
     have h4 := h3.perm (perm2 _ _ _)
     have h5 := run_endRound (P := P) jump h4.loopAt
     rw [hrec] at h5 ⊢
     refine ⟨h5, ?_⟩
     have h6 := (h4.putLoop (rec (if jump.isNone then .ready else .done) jump)).perm (perm2 _ _ _).symm
     have h7 := h6.perm (perm1 _ _ _).symm
     rw [hrec] at h7
     exact h7
    intro e a3 W3 hp
    cases e with
    | normal =>
     obtain ⟨L2, hJ2, h3⟩ := hp
     obtain ⟨h4, h5⟩ := fin none L2 W3 h3
     exact ⟨_, _, h4, .inl ⟨rfl, _, ⟨L2, hJ2, rfl⟩, h5⟩⟩
    | ret =>
     obtain ⟨L2, hJ2, h3⟩ := hp
     obtain ⟨h4, h5⟩ := fin (some .ret) L2 W3 h3
     exact ⟨_, _, h4, .inr ⟨rfl, _, ⟨.ret, L2, hJ2, rfl⟩, h5⟩⟩
    | exit id =>
     obtain ⟨L2, hJ2, h3⟩ := hp
     obtain ⟨h4, h5⟩ := fin (some (.exit id)) L2 W3 h3
     exact ⟨_, _, h4, .inr ⟨rfl, _, ⟨.exit id, L2, hJ2, rfl⟩, h5⟩⟩
    | goto t =>
     obtain ⟨L2, hJ2, h3⟩ := hp
     obtain ⟨h4, h5⟩ := fin (some (.goto t)) L2 W3 h3
     exact ⟨_, _, h4, .inr ⟨rfl, _, ⟨.goto t, L2, hJ2, rfl⟩, h5⟩⟩
    | panic ch => exact hp.elim
    | outgrown => exact hp.elim
   | ret => exact hq.elim
   | exit id => exact hq.elim
   | goto t => exact hq.elim
   | panic ch => exact hq.elim
   | outgrown => exact hq.elim
  ·refine (List.perm_append_comm (l₁ := [lpc l (rec .ready none), dpc D]) (l₂ := L ++ (M 0 ++ Lr))).trans ?_
   rw [List.append_assoc, List.append_assoc]
   have e : (L ++ (M 0 ++ (Lr ++ [lpc l (rec .ready none), dpc D]))).Perm (M 0 ++ (L ++ (Lr ++ [lpc l (rec .ready none), dpc D]))) := by
    rw [← List.append_assoc, ← List.append_assoc (M 0)]
    exact List.Perm.append_right _ List.perm_append_comm
   exact e.trans (List.Perm.append_left _ (List.Perm.append_left _ (List.perm_append_comm (l₁ := Lr) (l₂ := [lpc l (rec .ready none), dpc D]))))
  ·rintro e W2 ⟨⟨v, rfl⟩, (⟨T, ⟨L', hJ, rfl⟩, hW⟩ | ⟨k, hk, T, ⟨c, L', hJ, rfl⟩, hW⟩)⟩
   ·have h1 := (hW.perm (perm1 _ _ _)).perm (perm2 _ _ _)
    refine ⟨none, _, by have := run_endLoop (P := P) h1.loopAt (by rw [hrec]; simp); rw [hrec] at this; exact this, ?_⟩
    have h2 := (h1.putLoop { rec .ready none with state := .exhausted }).drop
    rw [hrec] at h2
    refine hdone D L' _ hJ (h2.perm ?_)
    exact List.Perm.append_left _ (by
     rw [List.cons_append]
     exact (List.perm_append_comm (l₁ := dpc D :: Lr) (l₂ := Me)))
   ·have h1 := (hW.perm (perm1 _ _ _)).perm (perm2 _ _ _)
    refine ⟨some c, _, by have := run_endLoop (P := P) h1.loopAt (by rw [hrec]; simp); rw [hrec] at this; exact this, ?_⟩
    have h2 := (h1.putLoop { rec .done (some c) with state := .exhausted }).drop
    rw [hrec] at h2
    refine wp_WF.2 (hstop D c k L' _ hk hJ (h2.perm ?_))
    exact List.Perm.append_left _ (by
     rw [List.cons_append]
     exact (List.perm_append_comm (l₁ := dpc D :: Lr) (l₂ := M (k + 1))))
theorem St.mid {w0 w : World} {X : List Nat} {Lb M L : List At} {d : At} (h : St w0 X (Lb ++ (M ++ d :: L)) w) : St w0 X (d :: (Lb ++ (M ++ L))) w := h.perm (by
 rw [← List.append_assoc, ← List.append_assoc]; exact List.perm_middle)
theorem zip2 (T : Array Value) (p q : Tmp) (u v : Value) : ((#[p, q] : Array Tmp).zip #[u, v]).foldl (fun t (p, v) => t.setIfInBounds p v) T = (T.setIfInBounds p u).setIfInBounds q v := by simp
/-! ### Functions that hold such a statement -/
section
variable {P : Program} {w0 w : World} {X : List Nat} {L : List At}
theorem enterM {f : FuncId} {fn : Func} {c : Code} {args : Array Value} {R : Ending → World → Prop} (hf : P.funcs[f]? = some fn) (hb : fn.body = some c)
  (h : c.wp P (bodyPostM (WF none) 0 P fn R) { tmps := args ++ Array.replicate (fn.ntmps - args.size) undef, defers := [] } w) : Calls P f args w R :=
 calls_WF (n := 0) (callsIn_of_wp_marks (F := WF none) hf hb trivial (wp_WF.2 h))
theorem leave0 {fn : Func} {tmps : Array Value} {R : Ending → World → Prop} {v : Value} (hr : (results fn tmps).run P w = .ok v w) (hR : R (.returned v) w) : LeavesInM (WF none) 0 P fn tmps R [] .returning w := ⟨v, hr, hR⟩
theorem results_cell1 {fn : Func} {tmps : Array Value} {p : Tmp} {ty : TypeId} {g i : Nat} {v : Value} (hs : St w0 X L w) (hr : fn.results = #[.cell p ty]) (hp : tmps.getD p undef = .pointer (some ⟨g, i, none⟩)) (hc : Cell L g i v) (hd : (P.underlying ty).map TypeDesc.isRow = some false) : (results fn tmps).run P w = .ok v w := by
 have h := run_loadAt_cell (P := P) (w := w) hd (hc w hs.hold)
 have h2 : (loadVar ty ⟨g, i, none⟩).run P w = .ok v w := by simpa [Instr.loadAt, Instr.sureAddr] using h
 have hp' : tmps[p]?.getD undef = .pointer (some ⟨g, i, none⟩) := by simpa using hp
 simp [results, hr, hp', asAddr, h2]
theorem leave1 {fn : Func} {tmps : Array Value} {R : Ending → World → Prop} {D : Nat} {ds : List Deferred} (hs : St w0 X (dpc D :: L) w) (h : ∀ w', St w0 X L w' → LeavesInM (WF none) 0 P fn tmps R ds .returning w') :
  LeavesInM (WF none) 0 P fn tmps R ({ target := .collected D, args := #[] } :: ds) .returning w := by
 have hD : w.heap[D]? = some (.deferred (some [])) := hs.hold (dpc D) List.mem_cons_self
 refine ⟨by simp, .inl ⟨D, _, rfl, run_takeDeferred hD, h _ ?_⟩⟩
 exact St.turn (P := [dpc D]) (P' := []) hs ((fr_putObj w D _).mono fun b _ hb => by simp [ownedL, At.owned, dpc]; exact hb) (by simp) (by simp) (by simp [ownedL]) (by simp [ownedL])
end
end Se
end Go.Proofs.Ythpgkkfahiglnaa

