/- Contracts and plain facts for the laws of layer 41. No condition. -/
import Derived.Deep.DeepCutAuto
import Derived.ChangeKeysEq
import Derived.Laws.StructEq
import Derived.ProofKit
import Derived.OpenShut
import Derived.ShutString
import Derived.ChangeOld
import Derived.Carry
import Derived.Deep.Matrix
import Derived.Deep.Slices
import Derived.Test.YtjnllcnknjlmmaaGreatKa01
set_option linter.unusedSimpArgs false
set_option linter.unusedVariables false
set_option maxRecDepth 100000
set_option maxHeartbeats 4000000
namespace Go.Proofs.YtjnllcnknjlmmaaGreat
open Go Go.RowKit
namespace Se
open Li (Blk Rd Fr)
def Ow(w:World)(s:Nat)(r:Option Nat)(A:Option Addr)(n c:Nat)(xs:List Value):Prop :=
 xs.length=n*s/\n<=c/\((c=0/\r=none)\/∃ g off l t,A=some ⟨g,off,none⟩/\r=some g/\Blk w g l t/\off+c*s<=l.length/\c<=maxLen/\(l.drop off).take (n*s)=xs)
inductive At where
 | blk (g:Nat) (t:TypeId) (l:List Value)
 | own (s:Nat) (r:Option Nat) (A:Option Addr) (n c:Nat) (xs:List Value)
 | rd (A:Option Addr) (xs:List Value)
 | abs (bs:List Nat) (φ:World->Prop) (h1:∀ w,φ w->∀ b∈bs,b<w.heap.size) (h2:∀ w w':World,φ w->(∀ b∈bs,w'.heap[b]? = w.heap[b]?)->φ w')
def At.holds(w:World):At->Prop
 | .blk g t l=>Blk w g l t
 | .own s r A n c xs=>Ow w s r A n c xs
 | .rd A xs=>Rd w A xs
 | .abs _ φ _ _=>φ w
def At.owned:At->List Nat
 | .blk g _ _=>[g]
 | .own _ r _ _ _ _=>r.toList
 | .rd _ _=>[]
 | .abs bs _ _ _=>bs
def At.far(b:Nat):At->Prop
 | .rd A xs=>xs≠[]->∀ a,A=some a->a.block≠b
 | _=>True
abbrev ownedL(L:List At):List Nat:=L.flatMap At.owned
structure St (w0:World) (X:List Nat) (L:List At) (w:World):Prop where
 hold:∀ a∈L,a.holds w
 nd:(ownedL L).Nodup
 sep:∀ a∈L,∀ b∈ownedL L,a.far b
 may:∀ g∈ownedL L,g<w0.heap.size->g∈X
 fr:Fr (·∈X) w0 w
theorem Ow.lt{w:World}{s g:Nat}{A:Option Addr}{n c:Nat}{xs:List Value}(h:Ow w s (some g) A n c xs):g<w.heap.size:=by
 obtain⟨_,_,h|⟨g',off,l,t,_,h,hb,_⟩⟩:=h
 ·cases h.2
 ·cases h;exact hb.lt
theorem At.lt{w:World}{a:At}(h:a.holds w){b:Nat}(hb:b∈a.owned):b<w.heap.size:=by
 cases a with
 | blk g t l=>simp[At.owned] at hb;subst hb;exact Blk.lt h
 | own s r A n c xs =>
  cases r with
  | none=>simp[At.owned] at hb
  | some g=>simp[At.owned] at hb;subst hb;exact Ow.lt h
 | rd A xs=>simp[At.owned] at hb
 | abs bs φ h1 h2=>exact h1 w h b hb
theorem Ow.of_block{w w':World}{s:Nat}{r:Option Nat}{A:Option Addr}{n c:Nat}{xs:List Value}(h:Ow w s r A n c xs)(e:∀ g,r=some g->w'.heap[g]? = w.heap[g]?):Ow w' s r A n c xs:=by
 obtain⟨h1,h2,h|⟨g,off,l,t,hA,hr,hb,h3⟩⟩:=h
 ·exact⟨h1,h2,.inl h⟩
 ·exact⟨h1,h2,.inr ⟨g,off,l,t,hA,hr,hb.of_block (e g hr),h3⟩⟩
theorem Ow.rd{w:World}{s:Nat}{r:Option Nat}{A:Option Addr}{n c:Nat}{xs:List Value}(h:Ow w s r A n c xs):Rd w A xs:=by
 obtain⟨h1,h2,h|⟨g,off,l,t,hA,hr,hb,h3,h4,h5⟩⟩:=h
 ·have:n=0:=by omega
  subst this;simp at h1;exact .inl h1
 ·refine .inr ⟨g,off,hA,fun i hi=>?_⟩
  rw[hb.cell,<-h5,List.getElem?_take_of_lt (by omega),List.getElem?_drop]
theorem At.fr{X:Nat->Prop}{w w':World}{a:At}(h:a.holds w)(k:Fr X w w')(ho:∀ b∈a.owned,¬ X b)(hf:∀ b,b<w.heap.size->X b->a.far b):a.holds w':=by
 cases a with
 | blk g t l=>exact Blk.fr h k (ho g (by simp[At.owned]))
 | own s r A n c xs=>exact Ow.of_block h fun g hg=>k.block g (by subst hg;exact Ow.lt h) (ho g (by simp[At.owned,hg]))
 | abs bs φ h1 h2=>exact h2 w w' h fun b hb=>k.block b (h1 w h b hb) (ho b hb)
 | rd A xs =>
  by_cases hx:xs=[]
  ·exact .inl hx
  ·obtain⟨g,off,hA,hl,_⟩:=Rd.cells h hx
   refine Rd.fr h k fun a ha hx hX=>?_
   have:=hf a.block (by rw[hA] at ha;cases ha;exact hl) hX
   exact this hx a ha rfl
theorem owned_sub{L L':List At}(p:L'.Sublist L):(ownedL L').Sublist (ownedL L):=by
 induction p with
 | slnil=>exact List.Sublist.refl _
 | cons a _ ih=>exact ih.trans (by simp only[ownedL,List.flatMap_cons];exact List.sublist_append_right _ _)
 | cons_cons a _ ih=>simp only[ownedL,List.flatMap_cons];exact List.Sublist.append_left ih _
theorem perm_at{L:List At}(k:Nat)(hlt:k<L.length):L.Perm (L[k]::L.eraseIdx k):=by
 conv=>lhs;rw[<-List.take_append_drop k L,List.drop_eq_getElem_cons hlt]
 rw[List.eraseIdx_eq_take_drop_succ];exact List.perm_middle
theorem far_new{w:World}{a:At}(h:a.holds w){b:Nat}(hb:w.heap.size<=b):a.far b:=by
 cases a with
 | rd A xs =>
  intro hx a ha
  obtain⟨g,off,hA,hl,_⟩:=Rd.cells h hx
  rw[hA] at ha;cases ha
  show g≠b
  omega
 | _=>trivial
def At.noRd:At->Prop
 | .rd _ _=>False
 | _=>True
section
variable {w0 w w':World} {X:List Nat} {L L' P P':List At}
theorem St.perm(h:St w0 X L w)(p:L.Perm L'):St w0 X L' w:=by
 have q:(ownedL L).Perm (ownedL L'):=p.flatMap_right _
 exact⟨fun a ha=>h.hold a (p.mem_iff.2 ha),q.nodup_iff.1 h.nd,fun a ha b hb=>h.sep a (p.mem_iff.2 ha) b (q.mem_iff.2 hb),fun g hg=>h.may g (q.mem_iff.2 hg),h.fr⟩
theorem St.sub(h:St w0 X L w)(p:L'.Sublist L):St w0 X L' w:=by
 have q:(ownedL L').Sublist (ownedL L):=owned_sub p
 exact⟨fun a ha=>h.hold a (p.subset ha),h.nd.sublist q,fun a ha b hb=>h.sep a (p.subset ha) b (q.subset hb),fun g hg=>h.may g (q.subset hg),h.fr⟩
theorem St.drop{a:At}(h:St w0 X (a::L) w):St w0 X L w:=h.sub (List.sublist_cons_self _ _)
theorem St.pull(h:St w0 X L w)(k:Nat){a:At}(hk:L[k]? = some a):St w0 X (a::L.eraseIdx k) w:=by
 refine h.perm ?_
 obtain⟨hlt,rfl⟩:=List.getElem?_eq_some_iff.1 hk
 exact perm_at k hlt
theorem St.put(k:Nat){a a':At}(hk:L[k]? = some a)(h:St w0 X (a'::L.eraseIdx k) w):St w0 X (L.set k a') w:=by
 refine h.perm ?_
 obtain⟨hlt,rfl⟩:=List.getElem?_eq_some_iff.1 hk
 have e:(L.set k a').eraseIdx k=L.eraseIdx k:=by
  rw[List.eraseIdx_set_eq]
 have:=perm_at (L:=L.set k a') k (by simpa using hlt)
 rw[List.getElem_set_self,e] at this;exact this.symm
theorem St.turn(h:St w0 X (P++L) w)(k:Fr (·∈ownedL P) w w')(hp:∀ a∈P',a.holds w')(hr:∀ a∈P',a.noRd)(hn:(ownedL P').Nodup)(hm:∀ b∈ownedL P',b∈ownedL P\/w.heap.size<=b):St w0 X (P'++L) w':=by
 have hnd:=h.nd
 simp only[ownedL,List.flatMap_append,List.nodup_append] at hnd
 obtain⟨_,n2,n3⟩:=hnd
 have inL:∀ a∈L,a∈P++L:=fun a ha=>List.mem_append.2 (.inr ha)
 have oP:∀ b∈ownedL P,b∈ownedL (P++L):=fun b hb=>by simp only[ownedL,List.flatMap_append,List.mem_append];exact .inl hb
 have oL:∀ b∈ownedL L,b∈ownedL (P++L):=fun b hb=>by simp only[ownedL,List.flatMap_append,List.mem_append];exact .inr hb
 have hLlt:∀ b∈ownedL L,b<w.heap.size:=fun b hb=>by
  obtain⟨a,ha,hab⟩:=List.mem_flatMap.1 hb
  exact At.lt (h.hold a (inL a ha)) hab
 have hold:∀ a∈L,a.holds w':=fun a ha=>At.fr (h.hold a (inL a ha)) k
  (fun b hb hX=>n3 b hX b (List.mem_flatMap.2 ⟨a,ha,hb⟩) rfl)
  (fun b _ hX=>h.sep a (inL a ha) b (oP b hX))
 refine⟨?_,?_,?_,?_,?_⟩
 ·intro a ha
  rcases List.mem_append.1 ha with ha|ha
  ·exact hp a ha
  ·exact hold a ha
 ·simp only[ownedL,List.flatMap_append,List.nodup_append]
  refine⟨hn,n2,fun b hb c hc e=>?_⟩;subst e
  rcases hm b hb with hb|hb
  ·exact n3 b hb b hc rfl
  ·have:=hLlt b hc;omega
 ·intro a ha b hb
  rcases List.mem_append.1 ha with ha|ha
  ·have:=hr a ha
   cases a <;> first|trivial|exact absurd this (by simp[At.noRd])
  ·simp only[ownedL,List.flatMap_append,List.mem_append] at hb
   rcases hb with hb|hb
   ·rcases hm b hb with hb|hb
    ·exact h.sep a (inL a ha) b (oP b hb)
    ·exact far_new (h.hold a (inL a ha)) hb
   ·exact h.sep a (inL a ha) b (oL b hb)
 ·intro g hg hlt
  simp only[ownedL,List.flatMap_append,List.mem_append] at hg
  rcases hg with hg|hg
  ·rcases hm g hg with hg|hg
   ·exact h.may g (oP g hg) hlt
   ·have:=h.fr.size;omega
  ·exact h.may g (oL g hg) hlt
 ·exact h.fr.trans k fun b hb hX=>h.may b (oP b hX) hb
theorem St.ext(h:St w0 X L w)(e:Below w.heap.size w w'):St w0 X L w' :=
 St.turn (P:=[]) (P':=[]) h (Fr.ext e) (by simp) (by simp) (by simp[ownedL]) (by simp[ownedL])
theorem St.drewN(h:St w0 X L w)(n:Nat):St w0 X L (w.drewN n):=h.ext (Hv.Ext.drewN w n)
theorem St.drew(h:St w0 X L w):St w0 X L w.drew:=h.ext (Hv.Ext.drew w)
theorem St.alloc(h:St w0 X L w)(l:List Value)(t:TypeId):St w0 X (.blk w.heap.size t l::L) (w.alloc (.cells l.toArray t)) :=
 St.turn (P:=[]) (P':=[.blk w.heap.size t l]) h (Fr.ext (Hv.Ext.alloc _ _)) (by simp[At.holds];exact Blk.new _ _ _) (by simp[At.noRd]) (by simp[ownedL,At.owned]) (by simp[ownedL,At.owned])
theorem St.setCells{g:Nat}{t:TypeId}{l:List Value}(h:St w0 X (.blk g t l::L) w)(o:Nat)(vs:List Value)(hl:o+vs.length<=l.length):St w0 X (.blk g t (l.take o++vs++l.drop (o+vs.length))::L) (w.setCells g o vs) :=
 St.turn (P:=[.blk g t l]) (P':=[.blk g t (l.take o++vs++l.drop (o+vs.length))]) h ((Fr.refl _ w).setCells (by simp[ownedL,At.owned]) _ _)
  (by simp only[List.mem_singleton,forall_eq,At.holds];exact Blk.setCells vs o (h.hold _ List.mem_cons_self) hl) (by simp[At.noRd]) (by simp[ownedL,At.owned]) (by simp[ownedL,At.owned])
theorem St.setAll{g:Nat}{t:TypeId}{l vs:List Value}(h:St w0 X (.blk g t l::L) w)(hl:vs.length=l.length):St w0 X (.blk g t vs::L) (w.setCells g 0 vs):=by
 have:=h.setCells 0 vs (by omega)
 simpa [hl] using this
theorem St.setCell{g:Nat}{t:TypeId}{l:List Value}(h:St w0 X (.blk g t l::L) w)(i:Nat)(v:Value):St w0 X (.blk g t (l.set i v)::L) (w.setCell ⟨g,i,none⟩ v) :=
 St.turn (P:=[.blk g t l]) (P':=[.blk g t (l.set i v)]) h ((Fr.refl _ w).setCell (by simp[ownedL,At.owned]) _ _)
  (by simp only[List.mem_singleton,forall_eq,At.holds];exact Blk.set (h.hold _ List.mem_cons_self) i v) (by simp[At.noRd]) (by simp[ownedL,At.owned]) (by simp[ownedL,At.owned])
theorem St.start(w:World)(hL:∀ a∈L,a.holds w)(h:ownedL L=[]):St w [] L w :=
 ⟨hL,by rw[h];simp,by rw[h];simp,by rw[h];simp,Fr.refl _ _⟩
theorem St.below(h:St w0 [] L w):Below w0.heap.size w0 w:=h.fr.below (Nat.le_refl _) (by simp)
theorem St.blk_own{g:Nat}{t:TypeId}{l:List Value}(h:St w0 X (.blk g t l::L) w)(s n c:Nat)(hc:c*s<=l.length)(hn:n<=c)(hm:c<=maxLen):St w0 X (.own s (some g) (some ⟨g,0,none⟩) n c (l.take (n*s))::L) w :=
 St.turn (P:=[.blk g t l]) (P':=[.own s (some g) (some ⟨g,0,none⟩) n c (l.take (n*s))]) h (Fr.refl _ w)
  (by
   have hb:Blk w g l t:=h.hold _ List.mem_cons_self
   have:n*s<=c*s:=Nat.mul_le_mul_right _ hn
   simp only[List.mem_singleton,forall_eq,At.holds];exact⟨by simp;omega,hn,.inr ⟨g,0,l,t,rfl,rfl,hb,by omega,hm,by simp⟩⟩) (by simp[At.noRd]) (by simp[ownedL,At.owned]) (by simp[ownedL,At.owned])
theorem St.nil_own(h:St w0 X L w)(s:Nat)(A:Option Addr):St w0 X (.own s none A 0 0 []::L) w :=
 St.turn (P:=[]) (P':=[.own s none A 0 0 []]) h (Fr.refl _ w)
  (by simp only[List.mem_singleton,forall_eq,At.holds];exact⟨by simp,Nat.le_refl _,.inl ⟨rfl,rfl⟩⟩) (by simp[At.noRd]) (by simp[ownedL,At.owned]) (by simp[ownedL,At.owned])
theorem St.abs{a:At}(h:St w0 X (a::L) w){bs:List Nat}{φ:World->Prop}(h1:∀ w,φ w->∀ b∈bs,b<w.heap.size)(h2:∀ w w':World,φ w->(∀ b∈bs,w'.heap[b]? = w.heap[b]?)->φ w')(hn:bs.Nodup)(hb:∀ b∈bs,b∈a.owned)(hφ:φ w):St w0 X (.abs bs φ h1 h2::L) w :=
 St.turn (P:=[a]) (P':=[.abs bs φ h1 h2]) h (Fr.refl _ w) (by simp only[List.mem_singleton,forall_eq];exact hφ) (by simp[At.noRd]) (by simpa [ownedL,At.owned] using hn) (by simpa [ownedL,At.owned] using fun b hb'=>Or.inl (hb b hb'))
end
def Reads(L:List At)(A:Option Addr)(xs:List Value):Prop:=∀ w,(∀ a∈L,a.holds w)->Rd w A xs
def Cell(L:List At)(g i:Nat)(v:Value):Prop:=∀ w,(∀ a∈L,a.holds w)->w.cell? ⟨g,i,none⟩=some v
section
variable {L L':List At} {A:Option Addr} {xs:List Value}
theorem Reads.rd(k:Nat)(h:L[k]? = some (.rd A xs)):Reads L A xs:=fun _ hw=>hw _ (List.mem_of_getElem? h)
theorem Reads.own(k:Nat){s:Nat}{r:Option Nat}{n c:Nat}(h:L[k]? = some (.own s r A n c xs)):Reads L A xs:=fun _ hw=>Ow.rd (hw _ (List.mem_of_getElem? h))
theorem Reads.blk(k:Nat){g:Nat}{t:TypeId}(h:L[k]? = some (.blk g t xs)):Reads L (some ⟨g,0,none⟩) xs:=fun _ hw=>Rd.of_blk (hw _ (List.mem_of_getElem? h))
theorem Reads.nil:Reads L A []:=fun _ _=>.inl rfl
theorem Reads.take(h:Reads L A xs)(k:Nat):Reads L A (xs.take k):=fun w hw=>(h w hw).take k
theorem Reads.mono(h:Reads L A xs)(hs:∀ a∈L,a∈L'):Reads L' A xs:=fun w hw=>h w fun a ha=>hw a (hs a ha)
theorem Reads.cons(h:Reads L A xs)(a:At):Reads (a::L) A xs:=h.mono fun _ h=>List.mem_cons_of_mem _ h
theorem Reads.app(h:Reads L A xs)(P:List At):Reads (P++L) A xs:=h.mono fun _ h=>List.mem_append.2 (.inr h)
theorem Reads.rdm(h:.rd A xs∈L):Reads L A xs:=fun _ hw=>hw _ h
theorem Rd.drop{w:World}(h:Rd w A xs)(k c:Nat)(hk:k<=xs.length)(hc:c=k->xs.length<=k):Rd w (if c=k then A else A.map (·.add k)) (xs.drop k):=by
 rcases h with rfl|⟨g,off,rfl,h⟩
 ·exact .inl (by simp)
 ·by_cases hck:c=k
  ·exact .inl (List.drop_eq_nil_of_le (hc hck))
  ·rw[if_neg hck]
   refine .inr ⟨g,off+k,by simp[Addr.add_lit],fun i hi=>?_⟩;rw[List.length_drop] at hi;rw[Nat.add_assoc,h (k+i) (by omega),List.getElem?_drop]
theorem Rd.drop'{w:World}(h:Rd w A xs)(k:Nat):Rd w (A.map (·.add k)) (xs.drop k):=by
 rcases h with rfl|⟨g,off,rfl,h⟩
 ·exact .inl (by simp)
 ·refine .inr ⟨g,off+k,by simp[Addr.add_lit],fun i hi=>?_⟩
  rw[List.length_drop] at hi;rw[Nat.add_assoc,h (k+i) (by omega),List.getElem?_drop]
theorem Reads.at{g o:Nat}(h:Reads L (some ⟨g,o,none⟩) xs)(k:Nat):Reads L (some ⟨g,o+k,none⟩) (xs.drop k):=fun w hw=>by
 have:=Rd.drop' (h w hw) k
 simpa [Addr.add_lit] using this
theorem Reads.cell{g o:Nat}(h:Reads L (some ⟨g,o,none⟩) xs)(i:Nat){v:Value}(hv:xs[i]? = some v):Cell L g (o+i) v:=fun w hw=>by
 have hi:=(List.getElem?_eq_some_iff.1 hv).1
 rcases h w hw with rfl|⟨g',off,e,hc⟩
 ·simp at hi
 ·cases e
  rw[hc i hi,hv]
theorem Reads.cell0{g:Nat}(h:Reads L (some ⟨g,0,none⟩) xs)(i:Nat){v:Value}(hv:xs[i]? = some v):Cell L g i v:=by
 have:=h.cell i hv
 rwa [Nat.zero_add] at this
theorem Cell.blk(k:Nat){g i:Nat}{t:TypeId}{l:List Value}(h:L[k]? = some (.blk g t l)){v:Value}(hv:l[i]? = some v):Cell L g i v:=(Reads.blk k h).cell0 i hv
end
end Se
end Go.Proofs.YtjnllcnknjlmmaaGreat
namespace Go.Proofs.YtjnllcnknjlmmaaGreat
open Go Go.RowKit
namespace Se
open Li (Blk Rd Fr)
section
variable {P:Program} {w0 w:World} {X:List Nat} {L:List At} {o:Oper} {a:Act} {G:Value->World->Prop}
theorem isL{ops:Array Oper}{rest:List Oper}{Q:Exit->Act->World->Prop}(h:wpList P ops Q (o::rest) a w):wpList P ops Q (o::rest) a w:=h
theorem toL{ops:Array Oper}{rest:List Oper}{Q:Exit->Act->World->Prop}(hw:Region.wanted o (yielded ops a.tmps)=true)(h:Hv.Gives P o a w (fun v w'=>wpList P ops Q rest (a.put o.dst v) w')):wpList P ops Q (o::rest) a w :=
 wpList_step fun K hK=>by rw[if_pos hw];exact h.wp fun v w' h=>hK _ _ h
theorem gcall{f:FuncId}{args:Array Value}(hx:(execOp a.eval o).run P w=.ok (.enter f args) w)(h:Calls P f args w (fun e w'=>∃ v,e=.returned v/\G v w')):Hv.Gives P o a w G:=by
 unfold Hv.Gives;rw[hx];exact h
theorem ab{ops:Array Oper}{rest:List Oper}{Q:Exit->Act->World->Prop}(hs:St w0 X L w){l:List Value}{t:TypeId}(h:∀ w',St w0 X (.blk w.heap.size t l::L) w'->wpList P ops Q rest a w'):wpList P ops Q rest a (w.alloc (.cells l.toArray t)):=h _ (hs.alloc l t)
theorem run_isRow{ty:TypeId}{b:Bool}(h:(P.underlying ty).map TypeDesc.isRow=some b)(w:World):(isAgg ty).run P w=.ok b w:=by
 cases hd:P.underlying ty with
 | none=>simp[hd] at h
 | some d =>
  simp only[hd,Option.map_some,Option.some.injEq] at h;subst h;unfold isAgg;rw[Sem.run_bind,run_underlying hd w]
  cases d <;> rfl
theorem run_loadAt_cell{ty:TypeId}{g i:Nat}{v:Value}(hd:(P.underlying ty).map TypeDesc.isRow=some false)(hc:w.cell? ⟨g,i,none⟩=some v):(Instr.loadAt ty (.pointer (some ⟨g,i,none⟩))).run P w=.ok v w:=by
 simp[Instr.loadAt,Instr.sureAddr,loadVar,Sem.run_bind,run_isRow hd,hc]
theorem run_storeAt_cell{ty:TypeId}{g i:Nat}{v:Value}(hi:(P.info? ty).map (·.size)=some 1)(h1:v.oneCell'=true)(hc:(w.cell? ⟨g,i,none⟩).isSome=true)(hf:w.frozen? ⟨g,i,none⟩=false) :
  (Instr.storeAt ty (.pointer (some ⟨g,i,none⟩)) v).run P w=.ok () (w.setCell ⟨g,i,none⟩ v):=by
 have hcs:v.cells=#[v]:=by cases v <;> simp_all [Value.cells,Value.oneCell']
 obtain⟨u,hu⟩:=Option.isSome_iff_exists.1 hc
 simp[Instr.storeAt,Instr.sureAddr,storeVar,Sem.run_bind,Li.run_size hi,hcs,storeCells,run_store P _ _ _ _ h1,hu,hf,Addr.add_lit]
theorem ld(hs:St w0 X L w){ty:TypeId}{x:Operand}(ho:o.op=.load ty x){g i:Nat}(hx:a.eval x=.pointer (some ⟨g,i,none⟩)){v:Value}(hc:Cell L g i v)(hd:(P.underlying ty).map TypeDesc.isRow=some false)(hk:G v w):Hv.Gives P o a w G:=by
 unfold Hv.Gives execOp;simp only[ho,hx,Sem.run_bind,run_loadAt_cell hd (hc w hs.hold),Result.andThen_ok,Sem.run_pure];exact hk
theorem lda(hs:St w0 X L w){ty:TypeId}{x:Operand}(ho:o.op=.load ty x){g i:Nat}(hx:a.eval x=.pointer (some ⟨g,i,none⟩)){xs:List Value}(hr:Reads L (some ⟨g,i,none⟩) xs){n:Nat}(hi:(P.info? ty).map (·.size)=some n)(hd:(P.underlying ty).map TypeDesc.isRow=some true)(hn:n<=xs.length)(hk:G (.agg (xs.take n).toArray) w):Hv.Gives P o a w G:=by
 cases hu:P.underlying ty with
 | none=>simp[hu] at hd
 | some d =>
  simp only[hu,Option.map_some,Option.some.injEq] at hd
  have hc:w.rangeAt g i (xs.take n):=by
   intro j v hv
   have hj:=(List.getElem?_eq_some_iff.1 hv).1
   rw[List.length_take] at hj;rw[List.getElem?_take_of_lt (by omega)] at hv;exact hr.cell j hv w hs.hold
  have hr2:=run_loadAt_mid (P:=P) w g i ty (xs.take n) d hc hu hd (by simpa [Nat.min_eq_left hn] using hi)
  unfold Hv.Gives execOp;simp only[ho,hx,Sem.run_bind,hr2,Result.andThen_ok,Sem.run_pure];exact hk
theorem ldw(hs:St w0 X L w){ty:TypeId}{x:Operand}(ho:o.op=.load ty x){g i:Nat}(hx:a.eval x=.pointer (some ⟨g,i,none⟩)){xs:List Value}(hr:Reads L (some ⟨g,i,none⟩) xs)(hi:(P.info? ty).map (·.size)=some xs.length)(hd:(P.underlying ty).map TypeDesc.isRow=some true)(hk:G (.agg xs.toArray) w):Hv.Gives P o a w G :=
 lda hs ho hx hr hi hd (Nat.le_refl _) (by rw[List.take_length];exact hk)
theorem St.turnAt(k:Nat){p p':At}(hk:L[k]? = some p)(hs:St w0 X L w){w':World}(f:Fr (·∈p.owned) w w')(hp:p'.holds w')(hr:p'.noRd)(hn:p'.owned.Nodup)(hm:∀ b∈p'.owned,b∈p.owned\/w.heap.size<=b):St w0 X (L.set k p') w':=by
 refine St.put k hk ?_;exact St.turn (P:=[p]) (P':=[p']) (hs.pull k hk) (by simpa [ownedL] using f) (by simpa using hp) (by simpa using hr) (by simpa [ownedL] using hn) (by simpa [ownedL] using hm)
theorem St.setAt(k:Nat){g:Nat}{t:TypeId}{l:List Value}(hk:L[k]? = some (.blk g t l))(hs:St w0 X L w)(i:Nat)(v:Value):St w0 X (L.set k (.blk g t (l.set i v))) (w.setCell ⟨g,i,none⟩ v) :=
 St.turnAt k hk hs ((Fr.refl _ w).setCell (by simp[At.owned]) _ _) (Blk.set (hs.hold _ (List.mem_of_getElem? hk)) i v) trivial (by simp[At.owned]) (by simp[At.owned])
theorem St.setsAt(k:Nat){g:Nat}{t:TypeId}{l:List Value}(hk:L[k]? = some (.blk g t l))(hs:St w0 X L w)(i:Nat)(vs:List Value)(hl:i+vs.length<=l.length):St w0 X (L.set k (.blk g t (l.take i++vs++l.drop (i+vs.length)))) (w.setCells g i vs) :=
 St.turnAt k hk hs ((Fr.refl _ w).setCells (by simp[At.owned]) _ _) (Blk.setCells vs i (hs.hold _ (List.mem_of_getElem? hk)) hl) trivial (by simp[At.owned]) (by simp[At.owned])
theorem so(k:Nat)(hs:St w0 X L w){ty:TypeId}{x y:Operand}(ho:o.op=.store ty x y){g i:Nat}(hx:a.eval x=.pointer (some ⟨g,i,none⟩)){t:TypeId}{l:List Value}(hk:L[k]? = some (.blk g t l)){v:Value}(hy:a.eval y=v)(h1:v.oneCell'=true)(hi:(P.info? ty).map (·.size)=some 1)(hl:i<l.length)
  (h:∀ w',St w0 X (L.set k (.blk g t (l.set i v))) w'->G undef w'):Hv.Gives P o a w G:=by
 have hb:Blk w g l t:=hs.hold _ (List.mem_of_getElem? hk)
 have hr:=run_storeAt_cell (P:=P) (w:=w) (g:=g) (i:=i) (v:=v) hi h1 (by rw[hb.cell];simp[hl]) (hb.frozen i)
 unfold Hv.Gives execOp;simp only[ho,hx,hy,Sem.run_bind,hr,Result.andThen_ok,Sem.run_pure];exact h _ (St.setAt k hk hs i v)
theorem soa(k:Nat)(hs:St w0 X L w){ty:TypeId}{x y:Operand}(ho:o.op=.store ty x y){g i:Nat}(hx:a.eval x=.pointer (some ⟨g,i,none⟩)){t:TypeId}{l:List Value}(hk:L[k]? = some (.blk g t l)){vs:List Value}(hy:a.eval y=.agg vs.toArray)(h1:∀ v∈vs,v.oneCell'=true)(hi:(P.info? ty).map (·.size)=some vs.length)(hl:i+vs.length<=l.length)
  (h:∀ w',St w0 X (L.set k (.blk g t (l.take i++vs++l.drop (i+vs.length)))) w'->G undef w'):Hv.Gives P o a w G:=by
 have hb:Blk w g l t:=hs.hold _ (List.mem_of_getElem? hk)
 have hr:=run_storeVar_mid (P:=P) w g i ty vs.toArray (hb.there (by simpa using hl)) (by simpa using hi) (all_oneCell_toArray h1)
 unfold Hv.Gives execOp;simp only[ho,hx,hy,Instr.storeAt,Instr.sureAddr,Sem.run_bind,Sem.run_pure,Result.andThen_ok,hr];exact h _ (St.setsAt k hk hs i vs hl)
theorem sow(k:Nat)(hs:St w0 X L w){ty:TypeId}{x y:Operand}(ho:o.op=.store ty x y){g:Nat}(hx:a.eval x=.pointer (some ⟨g,0,none⟩)){t:TypeId}{l:List Value}(hk:L[k]? = some (.blk g t l)){vs:List Value}(hy:a.eval y=.agg vs.toArray)(h1:∀ v∈vs,v.oneCell'=true)(hi:(P.info? ty).map (·.size)=some vs.length)(hl:vs.length=l.length)
  (h:∀ w',St w0 X (L.set k (.blk g t vs)) w'->G undef w'):Hv.Gives P o a w G :=
 soa k hs ho hx hk hy h1 hi (by omega) fun w' hw=>h w' (by simpa [hl] using hw)
theorem al(hs:St w0 X L w){ty:TypeId}(ho:o.op=.alloc ty){l:List Value}(hz:(P.info? ty).bind (fun i=>i.zero.map (·.cells.toList))=some l)
  (h:∀ (w':World) (g:Nat),g=w.heap.size->St w0 X (.blk g ty l::L) w'->G (.pointer (some ⟨g,0,none⟩)) w'):Hv.Gives P o a w G:=by
 cases hi:P.info? ty with
 | none=>simp[hi] at hz
 | some i =>
  cases hz0:i.zero with
  | none=>simp[hi,hz0] at hz
  | some z =>
   simp only[hi,hz0,Option.bind_some,Option.map_some,Option.some.injEq] at hz;subst hz
   have hr:(Instr.alloc ty true (.tuple #[])).run P w=.ok (.pointer (some ⟨w.heap.size,0,none⟩)) (w.alloc (.cells z.cells ty)):=by
    simp[Instr.alloc,zeroValue,typeInfo,hi,hz0,newVar,newRow]
   unfold Hv.Gives execOp;simp only[ho,Sem.run_bind,hr,Result.andThen_ok,Sem.run_pure];exact h _ _ rfl (by simpa using hs.alloc z.cells.toList ty)
theorem bx(hs:St w0 X L w){ty:TypeId}{x:Operand}(ho:o.op=.box ty x){v:Value}(hx:a.eval x=v){l:List Value}(hl:v.cells.toList=l)
  (h:∀ (w':World) (g:Nat),g=w.heap.size->St w0 X (.blk g ty l::L) w'->G (.pointer (some ⟨g,0,none⟩)) w'):Hv.Gives P o a w G:=by
 subst hl
 have hr:(Instr.box ty v).run P w=.ok (.pointer (some ⟨w.heap.size,0,none⟩)) (w.alloc (.cells v.cells ty)):=by
  simp[Instr.box,newVar,newRow]
 unfold Hv.Gives execOp;simp only[ho,hx,Sem.run_bind,hr,Result.andThen_ok,Sem.run_pure];exact h _ _ rfl (by simpa using hs.alloc v.cells.toList ty)
theorem bs(hs:St w0 X L w){ty:TypeId}{n:Nat}{parts:Array (Nat × Operand)}(ho:o.op=.buildSlice ty n parts){e:TypeId}(ht:P.underlying ty=some (.slice e)){z:Value}{s:Nat}(hi:(P.info? e).map (fun i=>(i.zero,i.size))=some (some z,s))(hb:n*s<=16777216)(h0:n*s≠0){cs:Array Value}
  (hf:Instr.fill (fun i=>some (i*s,s)) ((Array.range (n*s)).map (z.cells[· % z.cells.size]!)) (parts.map fun(i,x)=>(i,a.eval x)).toList=some cs)
  (h:∀ (w':World) (g:Nat),g=w.heap.size->St w0 X (.blk g e cs.toList::L) w'->G (.slice (some ⟨g,0,none⟩) n n) w'):Hv.Gives P o a w G:=by
 cases hq:P.info? e with
 | none=>simp[hq] at hi
 | some i =>
  simp only[hq,Option.map_some,Option.some.injEq,Prod.mk.injEq] at hi
  have hr:(Instr.buildSlice ty n (parts.map fun(i,x)=>(i,a.eval x))).run P w=.ok (.slice (some ⟨w.heap.size,0,none⟩) n n) (w.alloc (.cells cs e)):=by
   simp only[Instr.buildSlice,Sem.run_bind,run_underlying ht,Result.andThen_ok,sizeOf,typeInfo,run_program,hq,Sem.run_pure,hi.2,show ¬ (n*s > 2 ^ 24) by omega,if_false,if_neg h0,zeroValue,hi.1,hf,newRow,run_newObj]
   rfl
  unfold Hv.Gives execOp;simp only[ho,Sem.run_bind,hr,Result.andThen_ok,Sem.run_pure];exact h _ _ rfl (by simpa using hs.alloc cs.toList e)
theorem bs0(hs:St w0 X L w){ty:TypeId}(ho:o.op=.buildSlice ty 0 #[]){e:TypeId}(ht:P.underlying ty=some (.slice e))(hi:(P.info? e).isSome=true)
  (h:∀ (w':World) (g:Nat),g=w.heap.size->St w0 X (.blk g e []::L) w'->G (.slice (some ⟨g,0,none⟩) 0 0) w'):Hv.Gives P o a w G:=by
 obtain⟨i,hq⟩:=Option.isSome_iff_exists.1 hi
 have hr:(Instr.buildSlice ty 0 #[]).run P w=.ok (.slice (some ⟨w.heap.size,0,none⟩) 0 0) (w.alloc (.cells #[] e)):=by
  simp[Instr.buildSlice,Sem.run_bind,run_underlying ht,sizeOf,typeInfo,hq,Instr.fill,newRow];rw[show(Array.range 0)=#[] from rfl,Array.map_empty]
 unfold Hv.Gives execOp;simp only[ho,List.map_toArray,List.map_nil,Sem.run_bind,hr,Result.andThen_ok,Sem.run_pure];exact h _ _ rfl (by simpa using hs.alloc [] e)
theorem mk(hs:St w0 X L w){ty:TypeId}{x y:Operand}(ho:o.op=.makeSlice ty x y){e:TypeId}(ht:P.underlying ty=some (.slice e)){z:Value}{s b:Nat}(hi:(P.info? e).map (fun i=>(i.zero,i.size,i.bytes))=some (some z,s,b))(hz:z.cells.size=s)(n m:Nat){u v:Int}(hx:a.eval x=.int .i64 u)(hy:a.eval y=.int .i64 v)(hu:u=(n:Int))(hv:v=(m:Int))(hnm:n<=m)(hb:b*m<=281474976710656)(h63:m<=9223372036854775807)
  (h:∀ (w':World) (g:Nat),g=w.heap.size->St w0 X (.blk g e (List.replicate m z.cells.toList).flatten::L) w'->G (.slice (some ⟨g,0,none⟩) n m) w'):Hv.Gives P o a w G:=by
 subst hu hv
 cases hq:P.info? e with
 | none=>simp[hq] at hi
 | some i =>
  simp only[hq,Option.map_some,Option.some.injEq,Prod.mk.injEq] at hi
  obtain⟨h1,h2,h3⟩:=hi
  have hbI:(i.bytes:Int)*(m:Int)<=281474976710656:=by
   have:((i.bytes*m:Nat):Int)<=281474976710656:=by rw[h3];omega
   rwa [Int.natCast_mul] at this
  have hr:=run_make (P:=P) w ty e i z ht hq h1 .i64 .i64 n m (by omega) (by omega) hbI (by omega)
  simp only[Int.toNat_natCast,h2] at hr
  have hmade:(madeCells z.cells (m*s)).toList=(List.replicate m z.cells.toList).flatten:=by
   subst hz
   have lf:(List.replicate m z.cells.toList).flatten.length=m*z.cells.size:=by simp[List.length_flatten]
   apply List.ext_getElem
   ·unfold madeCells;simp
   ·intro j h1 h2
    rw[lf] at h2;unfold madeCells
    have hsz:0<z.cells.size:=by
     rcases Nat.eq_zero_or_pos z.cells.size with h0|h0
     ·rw[h0] at h2;simp at h2
     ·exact h0
    have key:∀ (m j:Nat) (hj:j<(List.replicate m z.cells.toList).flatten.length),(List.replicate m z.cells.toList).flatten[j]=z.cells[j%z.cells.size]'(Nat.mod_lt _ hsz):=by
     intro m
     induction m with
     | zero=>intro j hj;simp at hj
     | succ m ih =>
      intro j hj;simp only[List.replicate_succ,List.flatten_cons]
      by_cases hlt:j<z.cells.size
      ·rw[List.getElem_append_left (by simpa using hlt)]
       simp[Nat.mod_eq_of_lt hlt]
      ·rw[List.getElem_append_right (by simpa using hlt),ih]
       simp only[Array.length_toList]
       congr 1
       exact(Nat.mod_eq_sub_mod (by omega)).symm
    rw[key]
    have hm:j%z.cells.size<z.cells.size:=Nat.mod_lt _ hsz
    simp[hm]
  unfold Hv.Gives execOp;simp only[ho,hx,hy,Sem.run_bind,hr,Result.andThen_ok,Sem.run_pure];refine h _ _ rfl ?_
  have:=hs.alloc (madeCells z.cells (m*s)).toList e
  rw[hmade] at this
  have e2:(List.replicate m z.cells.toList).flatten.toArray=madeCells z.cells (m*s):=by rw[<-hmade]
  rw[e2] at this;exact this
theorem run_append_ow{t ty e:TypeId}{z:Value}{s b:Nat}(ht:P.underlying t=some (.slice e))(hinfo:(P.info? e).map (fun i=>(i.zero,i.size,i.bytes))=some (some z,s,b))(hz:z.cells.size=s)(hs0:0<s)
  {r:Option Nat} {A B:Option Addr} {c n m cy:Nat} {xs ys:List Value} (hO:Ow w s r A n c xs) (hR:Rd w B ys) (hy:∀ v∈ys,v.oneCell'=true) (hm:ys.length=m*s) (hle:(n+m)*b<=140737488355328) (h63:n+m<=4611686018427387904) :
  ∃ A' c' r' w',(Builtin.append_ #[t,t] ty #[.slice A n c,.slice B m cy]).run P w=.ok (.slice A' (n+m) c') w'/\Ow w' s r' A' (n+m) c' (xs++ys)/\w.grownBy w' r/\(r'=r\/r'=some w.heap.size):=by
 cases hi:P.info? e with
 | none=>simp[hi] at hinfo
 | some i =>
  simp only[hi,Option.map_some,Option.some.injEq,Prod.mk.injEq] at hinfo
  obtain⟨hz1,hs1,hby⟩:=hinfo
  obtain⟨hxl,hnc,hcase⟩:=hO
  by_cases hy0:ys=[]
  ·subst hy0
   have hm0:m=0:=by
    rcases Nat.eq_zero_or_pos m with h|h
    ·exact h
    ·have:=Nat.mul_pos h hs0;simp at hm;omega
   subst hm0
   have hsrc:Src P i.size t (.slice B 0 cy) 0 [] w:=⟨.inl ⟨e,ht⟩,fun w'=>by simp[Builtin.lenOf],by cases B <;> simp[Builtin.firstCells,loadCells,loadCellsFrom],by cases B <;> simp[Builtin.firstCells,loadCells,loadCellsFrom],by simp,by simp⟩
   have hr:=run_append_nothing (P:=P) w t t ty e i ht hi A n c hnc (.slice B 0 cy) hsrc
   exact⟨A,c,r,w,by simpa using hr,by simpa using ⟨hxl,hnc,hcase⟩,⟨rfl,rfl,rfl,Nat.le_refl _,fun _ _ _=>rfl⟩,.inl rfl⟩
  ·obtain⟨g2,o2,rfl,_,hc2⟩:=hR.cells hy0
   have hp:0<m:=by
    rcases Nat.eq_zero_or_pos m with h|h
    ·subst h;simp at hm;exact absurd hm hy0
    ·exact h
   have hnews:∀ j u,ys[j]? = some u->w.cell? ((⟨g2,o2,none⟩:Addr).add j)=some u:=fun j u hu=>by
    rw[Addr.add_lit,hc2 j (List.getElem?_eq_some_iff.1 hu).1];exact hu
   have hmax:(maxLen:Nat)=9223372036854775807:=rfl
   have hge:=grownCap_ge w (n+m) c e
   have hcm:=grownCap_le_maxLen w (n+m) c e (by omega)
   by_cases hroom:n+m<=c
   ·rcases hcase with ⟨rfl,rfl⟩|⟨g,off,l,t',rfl,rfl,hb,hl,hmx,hx⟩
    ·omega
    ·have hcs:n*s+m*s<=c*s:=by rw[<-Nat.add_mul];exact Nat.mul_le_mul_right _ hroom
     have hr:=run_append_room_cells (P:=P) w t ty e i ht hi g off n c ⟨g2,o2,none⟩ m cy ys (by rw[hs1];exact hm) hnews hy hroom
      (fun j hj=>by rw[hb.cell,hs1];simp;omega) (fun j hj=>hb.frozen _)
     rw[hs1] at hr;refine⟨_,_,some g,_,hr,⟨by rw[List.length_append,hxl,hm,Nat.add_mul],hroom,.inr ⟨g,off,_,t',rfl,rfl,hb.setCells ys (off+n*s) (by omega),?_,hmx,?_⟩⟩,⟨?_,?_,?_,?_,?_⟩,.inl rfl⟩
     ·simp only[List.length_append,List.length_take,List.length_drop];omega
     ·have e1:(l.take (off+n*s)++ys++l.drop (off+n*s+ys.length)).drop off=xs++ys++l.drop (off+n*s+ys.length):=by
       rw[List.append_assoc,List.drop_append_of_le_length (by rw[List.length_take];omega),List.drop_take,Nat.add_sub_cancel_left,hx,List.append_assoc]
      rw[e1,Nat.add_mul,<-hxl,<-hm,<-List.length_append];exact List.take_left
     ·exact(Li.below_setCells ys _ w g (Below.refl 0 w) (Nat.zero_le _)).os
     ·exact(Li.below_setCells ys _ w g (Below.refl 0 w) (Nat.zero_le _)).tape
     ·exact(Li.below_setCells ys _ w g (Below.refl 0 w) (Nat.zero_le _)).output
     ·rw[Li.size_setCells];exact Nat.le_refl _
     ·intro k _ hk
      exact Li.heap_setCells_other ys _ w g k (fun h=>hk (by rw[h]))
   ·have hx2:xs.length=n*i.size:=by rw[hs1,hxl]
    have hy2:ys.length=m*i.size:=by rw[hs1,hm]
    have hgrown:∀ (q:Nat) (cs:Array Value) (hq:n+m<=q) (hqm:q<=maxLen) (hcs:cs.size=q*s) (hpre:cs.toList.take ((n+m)*s)=xs++ys),
      Ow (w.drew.alloc (.cells cs e)) s (some w.heap.size) (some ⟨w.heap.size,0,none⟩) (n+m) q (xs++ys)/\w.grownBy (w.drew.alloc (.cells cs e)) r:=by
     intro q cs hq hqm hcs hpre;refine⟨⟨by rw[List.length_append,hxl,hm,Nat.add_mul],hq,.inr ⟨w.heap.size,0,cs.toList,e,rfl,rfl,?_,by simp[hcs],hqm,by rw[List.drop_zero];exact hpre⟩⟩,⟨rfl,rfl,rfl,by simp,fun k hk _=>Below.heap_alloc w.drew _ k hk⟩⟩;exact Blk.new w.drew cs.toList e
    have holdsA:∀ ad,A=some ad->∀ j v,xs[j]? = some v->w.cell? (ad.add j)=some v:=by
     intro ad hA j v hv
     rcases Ow.rd ⟨hxl,hnc,hcase⟩ with rfl|⟨g,off,h1,h2⟩
     ·simp at hv
     ·rw[hA] at h1;cases h1
      rw[Addr.add_lit,h2 j (List.getElem?_eq_some_iff.1 hv).1];exact hv
    cases A with
    | some ad =>
     have hr:=run_append_grow (P:=P) w t ty e i z ht hi hz1 ad n c xs hx2 (holdsA ad rfl) ⟨g2,o2,none⟩ m cy ys hy2 hnews (by omega) (by omega) (growslice_fits (by omega) (by rw[hby];omega))
     obtain⟨k1,k2⟩:=hgrown (grownCap w (n+m) c e) (xs.toArray++ys.toArray++Builtin.zeroCells z.cells (grownCap w (n+m) c e-(n+m))) hge hcm
      (by
       simp only[Array.size_append,List.size_toArray,size_zeroCells,hz,hxl,hm];rw[<-Nat.add_mul,<-Nat.add_mul];congr 1;omega)
      (by
       simp only[Array.toList_append,List.append_assoc];rw[<-List.append_assoc,Nat.add_mul,<-hxl,<-hm,<-List.length_append];exact List.take_left)
     exact⟨_,_,_,_,hr,k1,k2,.inr rfl⟩
    | none =>
     have h0:c=0/\r=none:=by
      rcases hcase with h|⟨g,off,l,t,h,_⟩
      ·exact h
      ·cases h
     obtain⟨rfl,rfl⟩:=h0
     obtain rfl:n=0:=by omega
     obtain rfl:xs=[]:=List.eq_nil_of_length_eq_zero (by simpa using hxl)
     have hr:=run_append_nil (P:=P) w t ty e i z ht hi hz1 ⟨g2,o2,none⟩ m cy ys hy2 hnews hp (by omega) (by rw[hby];simp at hle;omega)
     obtain⟨k1,k2⟩:=hgrown (grownCap w m 0 e) (ys.toArray++Builtin.zeroCells z.cells (grownCap w m 0 e-m)) (by simpa using hge) (by simpa using hcm)
      (by
       simp only[Array.size_append,List.size_toArray,size_zeroCells,hz,hm];rw[<-Nat.add_mul];congr 1
       have:m<=grownCap w m 0 e:=by simpa using hge
       omega)
      (by simp only[Array.toList_append,Nat.zero_add,List.nil_append,<-hm];exact List.take_left)
     exact⟨_,_,_,_,by simpa using hr,k1,k2,.inr rfl⟩
theorem St.appendAt(k:Nat){s:Nat}{r r':Option Nat}{A A':Option Addr}{n n' c c':Nat}{xs ys:List Value}(hk:L[k]? = some (.own s r A n c xs))(hs:St w0 X L w){w':World}(hO:Ow w' s r' A' n' c' ys)(hg:w.grownBy w' r)(hr:r'=r\/r'=some w.heap.size):St w0 X (L.set k (.own s r' A' n' c' ys)) w':=by
 refine St.turnAt k hk hs (Fr.grown hg fun g hg=>by simp[At.owned,hg]) hO trivial (by cases r' <;> simp[At.owned]) ?_;intro b hb
 rcases hr with rfl|rfl
 ·exact .inl hb
 ·simp[At.owned] at hb ⊢;omega
theorem ap(k:Nat)(hs:St w0 X L w){x y:Operand}{t e:TypeId}(ho:o.op=.call { callee:=.builtin .append,args:=#[x,y],argTypes:=#[t,t] })
  {s:Nat} {r:Option Nat} {A B:Option Addr} {n c m cy:Nat} (hx:a.eval x=.slice A n c) (hy:a.eval y=.slice B m cy) {xs:List Value} (hk:L[k]? = some (.own s r A n c xs)) {ys:List Value} (hr:Reads L B ys)
  {z:Value} {b:Nat} (ht:P.underlying t=some (.slice e)) (hinfo:(P.info? e).map (fun i=>(i.zero,i.size,i.bytes))=some (some z,s,b)) (hz:z.cells.size=s) (hs0:0<s)
  (h1:∀ v∈ys,v.oneCell'=true) (hm:ys.length=m*s) (hle:(n+m)*b<=140737488355328) (h63:n+m<=4611686018427387904)
  (h:∀ (w':World) (r':Option Nat) (A':Option Addr) (c':Nat),St w0 X (L.set k (.own s r' A' (n+m) c' (xs++ys))) w'->G (.slice A' (n+m) c') w'):Hv.Gives P o a w G:=by
 obtain⟨A',c',r',w',hr,h2,h3,h4⟩:=run_append_ow (P:=P) (ty:=o.type) (cy:=cy) ht hinfo hz hs0 (hs.hold _ (List.mem_of_getElem? hk)) (hr w hs.hold) h1 hm hle h63
 unfold Hv.Gives execOp;simp only[ho,resolve,invoke,builtin,Sem.run_bind,Sem.run_pure,Result.andThen_ok,List.map_toArray,List.map_cons,List.map_nil,hx,hy,hr];exact h w' r' A' c' (St.appendAt k hk hs h2 h3 h4)
theorem Ow.at_{w:World}{s:Nat}{r:Option Nat}{A:Option Addr}{n c:Nat}{xs:List Value}(h:Ow w s r A n c xs)(hn:0<n):∃ g off,A=some ⟨g,off,none⟩/\r=some g:=by
 obtain⟨h1,h2,h|⟨g,off,l,t,hA,hr,_⟩⟩:=h
 ·omega
 ·exact⟨g,off,hA,hr⟩
theorem St.own_at(k:Nat){s:Nat}{r:Option Nat}{A:Option Addr}{n c:Nat}{xs:List Value}(hs:St w0 X L w)(hk:L[k]? = some (.own s r A n c xs))(hn:0<n):∃ g off,A=some ⟨g,off,none⟩/\r=some g:=(show Ow w s r A n c xs from hs.hold _ (List.mem_of_getElem? hk)).at_ hn
theorem Ow.set{w:World}{s g off n c i:Nat}{xs:List Value}(h:Ow w s (some g) (some ⟨g,off,none⟩) n c xs)(hi:i<xs.length)(v:Value):Ow (w.setCell ⟨g,off+i,none⟩ v) s (some g) (some ⟨g,off,none⟩) n c (xs.set i v)/\(w.cell? ⟨g,off+i,none⟩).isSome=true/\w.frozen? ⟨g,off+i,none⟩=false:=by
 obtain⟨h1,h2,h|⟨g',off',l,t,hA,hr,hb,h3,h4,h5⟩⟩:=h
 ·have:n=0:=by omega
  subst this;omega
 ·cases hA;cases hr
  have hns:n*s<=c*s:=Nat.mul_le_mul_right _ h2
  refine⟨⟨by simpa using h1,h2,.inr ⟨g,off,l.set (off+i) v,t,rfl,rfl,hb.set _ v,by simpa using h3,h4,?_⟩⟩,?_,hb.frozen _⟩
  ·rw[List.drop_set,if_neg (by omega),Nat.add_sub_cancel_left,List.take_set,h5]
  ·rw[hb.cell]
   simp;omega
theorem soo(k:Nat)(hs:St w0 X L w){ty:TypeId}{x y:Operand}(ho:o.op=.store ty x y){g off i:Nat}(hx:a.eval x=.pointer (some ⟨g,off+i,none⟩)){s n c:Nat}{xs:List Value}(hk:L[k]? = some (.own s (some g) (some ⟨g,off,none⟩) n c xs)){v:Value}(hy:a.eval y=v)(h1:v.oneCell'=true)(hi:(P.info? ty).map (·.size)=some 1)(hl:i<xs.length)
  (h:∀ w',St w0 X (L.set k (.own s (some g) (some ⟨g,off,none⟩) n c (xs.set i v))) w'->G undef w'):Hv.Gives P o a w G:=by
 obtain⟨e1,e2,e3⟩:=Ow.set (hs.hold _ (List.mem_of_getElem? hk)) hl v
 have hr:=run_storeAt_cell (P:=P) (w:=w) (g:=g) (i:=off+i) (v:=v) hi h1 e2 e3
 unfold Hv.Gives execOp;simp only[ho,hx,hy,Sem.run_bind,hr,Result.andThen_ok,Sem.run_pure];exact h _ (St.turnAt k hk hs ((Fr.refl _ w).setCell (by simp[At.owned]) _ _) e1 trivial (by simp[At.owned]) (by simp[At.owned]))
theorem run_eqItems_self(d:Nat){e:TypeId}{k:IntKind}(he:P.underlying e=some (.int k))(l:List Value):∀ (is:List Nat),(∀ i∈is,∃ z,l[i]? = some (.int k z))->(Op.eqItems (d+1) e 1 l.toArray l.toArray is).run P w=.ok true w
 | [],_=>by simp[Op.eqItems]
 | i::is,h=>by
  obtain⟨z,hz⟩:=h i List.mem_cons_self
  have hp:(part e l.toArray (i*1)).run P w=.ok (.int k z) w:=by
   have hr:(isAgg e).run P w=.ok false w:=run_isRow (by rw[he];rfl) w
   simp[part,hr,hz]
  have ih:=run_eqItems_self d he l is fun j hj=>h j (List.mem_cons_of_mem _ hj)
  simp only[Op.eqItems,Sem.run_bind,hp,Result.andThen_ok,run_equalIn_int _ _ _ _ _ _ _ he];simpa using ih
theorem run_eql_self{t e:TypeId}{n:Nat}{k:IntKind}(ht:P.underlying t=some (.array n e))(he:P.underlying e=some (.int k))(hc:P.cellsOf e=1)(hi:(P.info? e).isSome=true)(l:List Value)(hl:∀ i,i<n->∃ z,l[i]? = some (.int k z)) :
  (Op.equalIn 10000 t (.agg l.toArray) (.agg l.toArray)).run P w=.ok true w:=by
 obtain⟨i,hi⟩:=Option.isSome_iff_exists.1 hi
 rw[run_equalIn_array w 9999 l.toArray l.toArray ht hi,hc];exact run_eqItems_self 9998 he l (List.range n) fun j hj=>hl j (List.mem_range.1 hj)
theorem St.addRd(h:St w0 X L w){A:Option Addr}{xs:List Value}(hr:Rd w A xs)(hf:∀ b∈ownedL L,(At.rd A xs).far b):St w0 X (.rd A xs::L) w:=by
 refine⟨?_,h.nd,?_,h.may,h.fr⟩
 ·intro a ha
  rcases List.mem_cons.1 ha with rfl|ha
  ·exact hr
  ·exact h.hold a ha
 ·intro a ha b hb
  have hb':b∈ownedL L:=hb
  rcases List.mem_cons.1 ha with rfl|ha
  ·exact hf b hb'
  ·exact h.sep a ha b hb'
theorem freeze_blk{g:Nat}{t:TypeId}{l:List Value}(h:Blk w g l t)(k:Nat):(w.freeze ⟨g,k,none⟩ 1).heap[g]? = some (.cells l.toArray t (k,k+1)):=by
 unfold Blk at h;simp[World.freeze,Array.getElem?_modify,h]
theorem freeze_fr(w:World)(g k:Nat):Fr (· = g) w (w.freeze ⟨g,k,none⟩ 1):=by
 refine⟨rfl,rfl,rfl,by simp[World.freeze],fun b _ hb=>?_⟩
 have:¬ g=b:=fun e=>hb e.symm
 simp[World.freeze,Array.getElem?_modify,this]
theorem cvs{g:Nat}{t:TypeId}{l:List Value}(hs:St w0 X (.blk g t l::L) w){src e:TypeId}{x:Operand}(ho:o.op=.convert src src x){n c:Nat}(hx:a.eval x=.slice (some ⟨g,0,none⟩) n c)(h1:P.underlying src=some (.slice e))(h3:P.underlying e=some (.int .u8))
  (h:∀ w',St w0 X (.rd (some ⟨g,0,none⟩) l::L) w'->G (.slice (some ⟨g,0,none⟩) n c) w'):Hv.Gives P o a w G:=by
 have hb:Blk w g l t:=hs.hold _ List.mem_cons_self
 have hsh:w.shape? g=some (t,l.length):=by unfold Blk at hb;simp[World.shape?,hb]
 have hr:(convert src src (.slice (some ⟨g,0,none⟩) n c)).run P w=.ok (.slice (some ⟨g,0,none⟩) n c) (w.freeze ⟨g,l.length,none⟩ 1):=by
  simp[convert,run_underlying h1,run_underlying h3,markStringish,hsh]
 have hf:=freeze_blk hb l.length
 have hnd:=hs.nd
 simp only[ownedL,List.flatMap_cons,List.nodup_append] at hnd
 have hL:St w0 X L (w.freeze ⟨g,l.length,none⟩ 1):=by
  refine St.turn (P:=[.blk g t l]) (P':=[]) hs ?_ (by simp) (by simp) (by simp[ownedL]) (by simp[ownedL]);exact(freeze_fr w g l.length).mono fun b _ hb=>by simp[ownedL,At.owned];exact hb
 unfold Hv.Gives execOp;simp only[ho,hx,Sem.run_bind,hr,Result.andThen_ok,Sem.run_pure];refine h _ (hL.addRd (.inr ⟨g,0,rfl,fun i hi=>?_⟩) ?_)
 ·rw[Nat.zero_add,cell_of_row _ g i _ t _ hf];simp
 ·intro b hb2 hx a ha
  cases ha
  exact fun e=>hnd.2.2 g (by simp[At.owned]) b hb2 e
theorem xl{ρ:Operand->Value}{ty:TypeId}{x:Operand}(ho:o.op=.load ty x){g i:Nat}(hx:ρ x=.pointer (some ⟨g,i,none⟩)){v:Value}(hc:w.cell? ⟨g,i,none⟩=some v)(hd:(P.underlying ty).map TypeDesc.isRow=some false):(execOp ρ o).run P w=.ok (.value v) w:=by
 unfold execOp;simp only[ho,hx,Sem.run_bind,run_loadAt_cell hd hc,Result.andThen_ok,Sem.run_pure]
theorem xla{ρ:Operand->Value}{ty:TypeId}{x:Operand}(ho:o.op=.load ty x){g i:Nat}(hx:ρ x=.pointer (some ⟨g,i,none⟩)){xs:List Value}(hr:Rd w (some ⟨g,i,none⟩) xs)(hi:(P.info? ty).map (·.size)=some xs.length)(hd:(P.underlying ty).map TypeDesc.isRow=some true):(execOp ρ o).run P w=.ok (.value (.agg xs.toArray)) w:=by
 cases hu:P.underlying ty with
 | none=>simp[hu] at hd
 | some d =>
  simp only[hu,Option.map_some,Option.some.injEq] at hd
  have hc:w.rangeAt g i xs:=by
   intro j v hv
   have hj:=(List.getElem?_eq_some_iff.1 hv).1
   rcases hr with rfl|⟨g',off,e,h⟩
   ·simp at hj
   ·cases e;rw[h j hj,hv]
  unfold execOp;simp only[ho,hx,Sem.run_bind,run_loadAt_mid (P:=P) w g i ty xs d hc hu hd hi,Result.andThen_ok,Sem.run_pure]
theorem xne{ρ:Operand->Value}{t u:TypeId}{x y:Operand}(ho:o.op=.binOp .neq t x y u){l:List Value}(hx:ρ x=.agg l.toArray)(hy:ρ y=.agg l.toArray){e:TypeId}{n:Nat}{k:IntKind}(ht:P.underlying t=some (.array n e))(he:P.underlying e=some (.int k))(hc:P.cellsOf e=1)(hi:(P.info? e).isSome=true)(hm:P.eqGuardType P.depth t=false)
  (hl:∀ i,i<n->∃ z,l[i]? = some (.int k z)):(execOp ρ o).run P w=.ok (.value (.bool false)) w:=by
 unfold execOp;simp only[ho,hx,hy,Sem.run_bind,run_eqGuard_agg w .neq t _ _ _ _ hm,Result.andThen_ok,run_neq_struct,run_eql_self ht he hc hi l hl,Sem.run_pure]
 rfl
theorem fill_one(v:Value)(h:v.oneCell'=true):v.cells=#[v]:=by cases v <;> simp_all [Value.cells,Value.oneCell']
theorem fill_scalars:∀ (vs:List Value) (k:Nat) (cs:List Value),(∀ v∈vs,v.oneCell'=true)->k+vs.length<=cs.length ->
  Instr.fill (fun i=>some (i*1,1)) cs.toArray ((vs.zipIdx k).map fun p=>(p.2,p.1))=some (cs.take k++vs++cs.drop (k+vs.length)).toArray
 | [],k,cs,_,_=>by simp[Instr.fill]
 | v::vs,k,cs,h,hk=>by
  simp only[List.length_cons] at hk
  have ih:=fill_scalars vs (k+1) (cs.set k v) (fun u hu=>h u (List.mem_cons_of_mem _ hu)) (by simp;omega)
  simp only[List.zipIdx_cons,List.map_cons,Instr.fill,fill_one v (h v List.mem_cons_self)];rw[if_neg (by simp;omega)]
  have e1:(#[v].zipIdx.foldl (fun cs (x:Value × Nat)=>cs.setIfInBounds (k*1+x.2) x.1) cs.toArray)=(cs.set k v).toArray:=by
   simp
  rw[e1,ih]
  congr 2
  rw[List.take_succ_eq_append_getElem (by simp;omega),List.getElem_set_self,List.take_set_of_le (Nat.le_refl _),List.drop_set_of_lt (by omega)];simp[Nat.add_comm,Nat.add_left_comm]
theorem bsv(hs:St w0 X L w){ty:TypeId}{n:Nat}{l:List (Nat × Operand)}(ho:o.op=.buildSlice ty n l.toArray){e:TypeId}(ht:P.underlying ty=some (.slice e)){z:Value}(hi:(P.info? e).map (fun i=>(i.zero,i.size))=some (some z,1))(hz:z.cells.size=1)(vs:List Value)(hv:l.map (fun p=>(p.1,a.eval p.2))=vs.zipIdx.map fun p=>(p.2,p.1))(hn:n=vs.length)(h0:n≠0)(hb:n<=16777216)(h1:∀ v∈vs,v.oneCell'=true)
  (h:∀ (w':World) (g:Nat),g=w.heap.size->St w0 X (.blk g e vs::L) w'->G (.slice (some ⟨g,0,none⟩) n n) w'):Hv.Gives P o a w G:=by
 refine bs hs ho ht hi (by omega) (by omega) (cs:=vs.toArray) ?_ h
 have e2:((Array.range (n*1)).map (z.cells[· % z.cells.size]!))=(List.replicate n (z.cells[0]!)).toArray:=by
  rw[hz]
  apply Array.ext
  ·simp
  ·intro i h1 h2;simp[Nat.mod_one]
 have e3:(l.toArray.map fun(i,x)=>(i,a.eval x)).toList=(vs.zipIdx 0).map fun p=>(p.2,p.1):=by
  rw[<-hv];simp
 rw[e2,e3,fill_scalars vs 0 _ h1 (by simp[hn])];simp[hn]
end
end Se
end Go.Proofs.YtjnllcnknjlmmaaGreat
namespace Go.Proofs.YtjnllcnknjlmmaaGreat
namespace Or
open Go Go.RowKit Hv Ch
def rdy(ops:Array Oper)(rest:List Nat)(j:Nat):Bool:=rest.all fun i => !Region.waitsFor .any ops j i
section
variable (P:Program) (ops:Array Oper) (S:World->Prop) (N:Nat->Bool) (F:Act->World->Prop)
def AW:Nat->List Nat->Act->World->Prop
 | 0,rest,a,w=>rest=[]/\F a w
 | n+1,rest,a,w =>
  (∃ q∈rest,N q=false/\rdy ops rest q=true/\∃ o,ops[q]? = some o/\∃ v,YieldsIf P ops S o v a/\AW n (rest.erase q) (a.put o.dst v) w) \/
  ((rest.all fun q=>N q || !rdy ops rest q)=true/\∀ j∈rest,rdy ops rest j=true->∃ o,ops[j]? = some o /\
   ((Region.wanted o (yielded ops a.tmps)=false/\AW n (rest.erase j) (a.put o.dst undef) w) \/
    (Region.wanted o (yielded ops a.tmps)=true/\Gives P o a w (fun v w'=>S w'/\AW n (rest.erase j) (a.put o.dst v) w'))))
end
section
variable {P:Program} {ops:Array Oper} {S:World->Prop} {N:Nat->Bool} {F:Act->World->Prop}
def Ap(ops:Array Oper)(x y:Oper):Prop:=(∀ d,x.dst=some d->d∉y.looksAt ops)/\(∀ d,x.dst=some d->y.dst≠some d)/\(∀ d,y.dst=some d->d∉x.looksAt ops)
theorem lt_erase{rest:List Nat}{b q:Nat}(h:∀ x∈rest,x<b):∀ x∈rest.erase q,x<b:=fun x hx=>h x (List.mem_of_mem_erase hx)
theorem rdy_erase{rest:List Nat}{q j:Nat}(h:rdy ops rest j=true):rdy ops (rest.erase q) j=true:=by
 unfold rdy at *
 rw[List.all_eq_true] at *
 exact fun i hi=>h i (List.mem_of_mem_erase hi)
theorem AW.pullq{b:Nat}(hap:∀ i j,i≠j->∀ rest:List Nat,(∀ x∈rest,x<b)->i∈rest->j∈rest->rdy ops rest i=true->rdy ops rest j=true->∀ oi oj,ops[i]? = some oi->ops[j]? = some oj->Ap ops oi oj)(hsel:∀ (j:Nat) (o:Oper) cs b,ops[j]? = some o->o.op≠.select cs b){j:Nat}{oj:Oper}(hj:ops[j]? = some oj)(hN:N j=false) :
  ∀ (n:Nat) (rest:List Nat) {a:Act} {w:World},(∀ x∈rest,x<b)->S w->j∈rest->rdy ops rest j=true->AW P ops S N F (n+1) rest a w->∃ v,YieldsIf P ops S oj v a/\AW P ops S N F n (rest.erase j) (a.put oj.dst v) w:=by
 intro n
 induction n with
 | zero =>
  intro rest a w hb0 hS hm hr h
  rcases h with ⟨q,hq,hNq,hrq,o,ho,v,hy,hre,hF⟩|⟨hall,_⟩
  ·have:rest=[q]:=by
    have hl:(rest.erase q).length=0:=by rw[hre];rfl
    rw[List.length_erase_of_mem hq] at hl
    match rest,hq,hl with
    | [x],hq,_=>simp at hq;rw[hq]
    | [],hq,_=>cases hq
    | _::_::_,_,hl=>simp at hl
   subst this
   have:j=q:=by simpa using hm
   subst this
   have:=Option.some.inj (ho.symm.trans hj);subst this
   exact⟨v,hy,hre,hF⟩
  ·have:=List.all_eq_true.1 hall j hm
   simp[hN,hr] at this
 | succ n ih =>
  intro rest a w hb0 hS hm hr h
  rcases h with ⟨q,hq,hNq,hrq,o,ho,v,hy,hW⟩|⟨hall,_⟩
  ·by_cases hqj:q=j
   ·subst hqj
    have:=Option.some.inj (ho.symm.trans hj);subst this
    exact⟨v,hy,hW⟩
   ·have hm':j∈rest.erase q:=(List.mem_erase_of_ne (fun e=>hqj e.symm)).2 hm
    obtain⟨vj,hyj,hW'⟩:=ih (rest.erase q) (lt_erase hb0) hS hm' (rdy_erase hr) hW
    have hapqj:=hap q j hqj rest hb0 hq hm hrq hr o oj ho hj
    obtain⟨h1,h2,h3⟩:=hapqj
    refine⟨vj,(YieldsIf.putIff (hsel j oj · · hj) h1).1 hyj,.inl ⟨q,(List.mem_erase_of_ne hqj).2 hq,hNq,rdy_erase hrq,o,ho,v,(YieldsIf.putIff (hsel q o · · ho) h3).2 hy,?_⟩⟩;rw[<-Act.put_comm a v vj h2,List.erase_comm];exact hW'
  ·have:=List.all_eq_true.1 hall j hm
   simp[hN,hr] at this
theorem AW.pulln{b:Nat}(hap:∀ i j,i≠j->∀ rest:List Nat,(∀ x∈rest,x<b)->i∈rest->j∈rest->rdy ops rest i=true->rdy ops rest j=true->∀ oi oj,ops[i]? = some oi->ops[j]? = some oj->Ap ops oi oj)(hsel:∀ (j:Nat) (o:Oper) cs b,ops[j]? = some o->o.op≠.select cs b){j:Nat}{oj:Oper}(hj:ops[j]? = some oj)(hN:N j=true) :
  ∀ (n:Nat) (rest:List Nat) {a:Act} {w:World},(∀ x∈rest,x<b)->S w->j∈rest->rdy ops rest j=true->AW P ops S N F (n+1) rest a w ->
   (Region.wanted oj (yielded ops a.tmps)=false/\AW P ops S N F n (rest.erase j) (a.put oj.dst undef) w)\/(Region.wanted oj (yielded ops a.tmps)=true/\Gives P oj a w (fun v w'=>S w'/\AW P ops S N F n (rest.erase j) (a.put oj.dst v) w')):=by
 intro n
 induction n with
 | zero =>
  intro rest a w hb0 hS hm hr h
  rcases h with ⟨q,hq,hNq,hrq,o,ho,v,hy,hre,hF⟩|⟨hall,hb⟩
  ·exfalso
   have hl:(rest.erase q).length=0:=by rw[hre];rfl
   have hqj:q≠j:=by rintro rfl;rw[hN] at hNq;cases hNq
   have:j∈rest.erase q:=(List.mem_erase_of_ne (fun e=>hqj e.symm)).2 hm
   rw[hre] at this;cases this
  ·obtain⟨o,ho,h⟩:=hb j hm hr
   have:=Option.some.inj (ho.symm.trans hj);subst this
   exact h
 | succ n ih =>
  intro rest a w hb0 hS hm hr h
  rcases h with ⟨q,hq,hNq,hrq,o,ho,v,hy,hW⟩|⟨hall,hb⟩
  ·have hqj:q≠j:=by rintro rfl;rw[hN] at hNq;cases hNq
   have hm':j∈rest.erase q:=(List.mem_erase_of_ne (fun e=>hqj e.symm)).2 hm
   have hapqj:=hap q j hqj rest hb0 hq hm hrq hr o oj ho hj
   obtain⟨h1,h2,h3⟩:=hapqj
   have wj:Region.wanted oj (yielded ops (a.put o.dst v).tmps)=Region.wanted oj (yielded ops a.tmps):=wanted_put oj a o.dst v h1
   have back:∀ {u:Value} {w':World},AW P ops S N F n ((rest.erase q).erase j) ((a.put o.dst v).put oj.dst u) w'->AW P ops S N F (n+1) (rest.erase j) (a.put oj.dst u) w':=fun {u w'} hX=>by
    refine .inl ⟨q,(List.mem_erase_of_ne hqj).2 hq,hNq,rdy_erase hrq,o,ho,v,(YieldsIf.putIff (hsel q o · · ho) h3).2 hy,?_⟩;rw[<-Act.put_comm a v u h2,List.erase_comm];exact hX
   rcases ih (rest.erase q) (lt_erase hb0) hS hm' (rdy_erase hr) hW with ⟨hw,hX⟩|⟨hw,hX⟩
   ·exact .inl ⟨by rw[<-wj];exact hw,back hX⟩
   ·exact .inr ⟨by rw[<-wj];exact hw,((Gives.put (hsel j oj · · hj) h1).1 hX).mono fun u w' ⟨h4,h5⟩=>⟨h4,back h5⟩⟩
  ·obtain⟨o,ho,h⟩:=hb j hm hr
   have:=Option.some.inj (ho.symm.trans hj);subst this
   exact h
def checkO(ops:Array Oper)(n:Nat):Bool :=
 Region.noSelect ops&&decide (n<=ops.size)&&(decide (n=ops.size) || (Region.sinkB .any ops n&&Region.chainB .any ops n))&&Region.lexHead .any ops (ops.size-n) n 0 (Array.replicate ops.size false)
theorem soundO{Q:Exit->Act->World->Prop}{n:Nat}(hB:checkO ops n=true)
  (hF:∀ listed a w,Region.seqB .any ops (ops.size-n) n listed=true->F a w->wpAny P .any ops Q (ops.size-n) listed a w) :
  ∀ (m:Nat) (rest:List Nat) (a:Act) (w:World) (listed:Array Bool),rest.length=m->HeadInv .any ops n listed->(∀ j,j∈rest↔j<n/\listed.getD j true=false)->rest.Pairwise (· < ·) ->
   AW P ops S N F m rest a w->S w->wpAny P .any ops Q (m+(ops.size-n)) listed a w:=by
 simp only[checkO,Bool.and_eq_true,decide_eq_true_eq,Bool.or_eq_true] at hB
 obtain⟨⟨⟨hsel,hn⟩,hsc⟩,hlex⟩:=hB
 have hap0:∀ i j,i<j->∀ rest:List Nat,i∈rest->rdy ops rest j=true->i<n->∀ oi oj,ops[i]? = some oi->ops[j]? = some oj->oi.apart ops oj=true:=by
  intro i j hij rest hi hr hin oi oj hoi hoj
  have hf:=lexHead_free n 0 _ hlex i (Nat.zero_le _) (by omega)
  have hjs:j<ops.size:=(Array.getElem?_eq_some_iff.1 hoj).1
  refine Region.free_spec hoi hf j oj hoj (by omega) ?_ ?_
  ·rw[canon_get,if_neg (by omega)]
   simp[hjs]
  ·intro e he hb heq
   have h1:=List.all_eq_true.1 hr i hi
   have h2:Region.waitsFor .any ops j i=true:=by
    unfold Region.waitsFor;rw[hoj];simp only[Array.any_eq_true'];exact⟨e,he,by simp[hb,heq]⟩
   simp[h2] at h1
 have hap:∀ i j,i≠j->∀ rest:List Nat,(∀ x∈rest,x<n)->i∈rest->j∈rest->rdy ops rest i=true->rdy ops rest j=true->∀ oi oj,ops[i]? = some oi->ops[j]? = some oj->Ap ops oi oj:=by
  intro i k hik r hr hi hk hri hrk oi ok hoi hok
  rcases Nat.lt_or_gt_of_ne hik with h|h
  ·exact Oper.apart_spec (hap0 i k h r hi hrk (hr i hi) oi ok hoi hok)
  ·obtain⟨h1,h2,h3⟩:=Oper.apart_spec (hap0 k i h r hk hri (hr k hk) ok oi hok hoi)
   exact⟨h3,fun d hd e=>h2 d e hd,h1⟩
 intro m
 induction m with
 | zero =>
  intro rest a w listed hlen inv hrest hpw hW hS
  have:rest=[]:=List.eq_nil_of_length_eq_zero hlen
  subst this;rw[Nat.zero_add];refine hF _ _ _ ?_ hW.2
  have:=lexHead_end (ops:=ops) n 0 _ hlex
  rw[Nat.zero_add] at this
  have e:listed=canon n 0 (Array.replicate ops.size false):=by
   apply Array.ext
   ·rw[inv.size,canon_size];simp
   ·intro j h1 h2
    have g1:listed.getD j true=listed[j]:=by simp[h1]
    have g2:(canon n 0 (Array.replicate ops.size false)).getD j true=(canon n 0 (Array.replicate ops.size false))[j]:=by simp[h2]
    rw[<-g1,<-g2,canon_get]
    have hjs:j<ops.size:=by rw[<-inv.size];exact h1
    by_cases hj:j<n
    ·rw[if_pos (by omega)]
     cases h:listed.getD j true with
     | true=>rfl
     | false=>exact absurd ((hrest j).2 ⟨hj,h⟩) (by simp)
    ·rw[if_neg (by omega)]
     rw[inv.tail j (by omega) hjs];simp[hjs]
  rw[e];exact this
 | succ m ih =>
  intro rest a w listed hlen inv hrest hpw hW hS
  have hmem:∃ i,i∈rest:=by
   match rest,hlen with
   | i::_,_=>exact⟨i,List.mem_cons_self⟩
  have hready:∀ j,j∈Region.ready .any ops listed->j<n:=by
   intro j hj
   obtain⟨i,hi⟩:=hmem
   have hi':=(hrest i).1 hi
   rcases Nat.lt_or_ge j n with h|h
   ·exact h
   ·obtain⟨_,oj,hoj,_⟩:=mem_ready.1 hj
    have hjs:j<ops.size:=(Array.getElem?_eq_some_iff.1 hoj).1
    rcases hsc with h0|⟨hs,hc⟩
    ·omega
    ·exact absurd hj (tail_waits hs hc (by omega) inv _ i rfl hi'.1 hi'.2 j h)
  rw[show m+1+(ops.size-n)=(m+(ops.size-n))+1 by omega];refine⟨fun h0=>?_,fun j hj=>?_⟩
  ·exfalso
   obtain⟨i,hi⟩:=hmem
   match rest,hrest,hpw with
   | k::rest',hrest,hpw =>
    have hk:=(hrest k).1 List.mem_cons_self
    have hall:∀ j,j<k->listed.getD j true=true:=by
     intro j hjk
     cases h:listed.getD j true with
     | true=>rfl
     | false =>
      have:=(hrest j).2 ⟨by omega,h⟩
      rcases List.mem_cons.1 this with rfl|h'
      ·omega
      ·have:=(List.pairwise_cons.1 hpw).1 j h'
       omega
    have hkr:k∈Region.ready .any ops listed:=by
     have:=lexHead_ready n 0 _ hlex k (by omega) (by omega)
     rw[mem_ready] at this ⊢
     obtain⟨_,ok,hok,hafter⟩:=this
     refine⟨hk.2,ok,hok,fun e he hb=>?_⟩
     have h1:=hafter e he hb
     have hks:k<ops.size:=(Array.getElem?_eq_some_iff.1 hok).1
     have hlt:e.on<k:=by
      rcases Nat.lt_or_ge e.on k with h|h
      ·exact h
      ·exfalso
       have h2:=canon_get (k-0) 0 (Array.replicate ops.size false) e.on
       rw[if_neg (by omega)] at h2
       rcases Nat.lt_or_ge e.on ops.size with h3|h3
       ·have h4:(Array.replicate ops.size false).getD e.on true=false:=by simp[h3]
        rw[h4] at h2;rw[getD_both h2] at h1;cases h1
       ·have:(canon (k-0) 0 (Array.replicate ops.size false)).getD e.on false=false:=by
         rw[Array.getD_eq_getD_getElem?,Array.getElem?_eq_none (by rw[canon_size];simpa using h3)];rfl
        rw[this] at h1;cases h1
     have h5:=hall e.on hlt
     have:e.on<listed.size:=by rw[inv.size];omega
     simp[this] at h5 ⊢;exact h5
    rw[h0] at hkr;cases hkr
  ·have hjn:=hready j hj
   obtain⟨hjun,oj,hoj,hjall⟩:=mem_ready.1 hj
   have hjrest:j∈rest:=(hrest j).2 ⟨hjn,hjun⟩
   have hrd:rdy ops rest j=true:=by
    rw[rdy,List.all_eq_true];intro i hi
    cases hw:Region.waitsFor .any ops j i with
    | false=>rfl
    | true =>
     obtain⟨o',ho',e,he,hb,hon⟩:=Region.waitsFor_spec hw
     have:=Option.some.inj (ho'.symm.trans hoj);subst this
     have h1:=hjall e he hb
     rw[hon,getD_both ((hrest i).1 hi).2] at h1
     cases h1
   have hlt:∀ x∈rest,x<n:=fun x hx=>((hrest x).1 hx).1
   have hlen':(rest.erase j).length=m:=by rw[List.length_erase_of_mem hjrest];omega
   have hnd:rest.Nodup:=hpw.imp (fun h=>Nat.ne_of_lt h)
   have hrest':∀ k,k∈rest.erase j↔k<n/\(listed.setIfInBounds j true).getD k true=false:=by
    intro k;rw[hnd.mem_erase_iff,hrest k]
    by_cases hkj:k=j
    ·subst hkj
     have hks:k<listed.size:=by rw[inv.size];exact(Array.getElem?_eq_some_iff.1 hoj).1
     simp[hks]
    ·rw[getD_set_ne true (fun h=>hkj h.symm)]
     simp[hkj]
   have hpw':(rest.erase j).Pairwise (· < ·):=hpw.sublist List.erase_sublist
   have inv':=inv.set hj hjn
   cases hnj:N j with
   | false =>
    obtain⟨v,hy,hW'⟩:=AW.pullq hap (Region.noSelect_spec hsel) hoj hnj m rest hlt hS hjrest hrd hW
    exact hy.wpOp hoj hS (ih _ _ _ _ hlen' inv' hrest' hpw' hW' hS)
   | true =>
    rcases AW.pulln hap (Region.noSelect_spec hsel) hoj hnj m rest hlt hS hjrest hrd hW with ⟨hw,hW'⟩|⟨hw,hg⟩
    ·unfold wpOp
     simp only[hoj,hw,Bool.false_eq_true,if_false];exact ih _ _ _ _ hlen' inv' hrest' hpw' hW' hS
    ·unfold wpOp
     simp only[hoj,hw,if_true];exact .inl (hg.wp fun v w' ⟨hS',hW'⟩=>ih _ _ _ _ hlen' inv' hrest' hpw' hW' hS')
theorem region{id:Nat}{Q:Exit->Act->World->Prop}{a:Act}{w:World}{l:List Oper}(n:Nat)(S:World->Prop)(N:Nat->Bool)
  (hm:P.follows .mixedOrders=true) (hB:checkO l.toArray n=true) (hS:S w.drew)
  (h:AW P l.toArray S N (fun a' w'=>wpList P l.toArray Q (l.drop n) a' w') n (List.range n) a w.drew):(Code.region id l.toArray true).wp P Q a w:=by
 have hB':=hB
 simp only[checkO,Bool.and_eq_true,decide_eq_true_eq] at hB'
 have hn:=hB'.1.1.2
 refine wp_region_any hm ?_
 have inv0:HeadInv .any l.toArray n (Array.replicate l.toArray.size false) :=
  ⟨by simp,fun j oj _ hl=>(by rw[getD_replicate_false] at hl;cases hl),fun t _ ht=>getD_in (by simpa using ht) (getD_replicate_false _ _)⟩
 have hdl:(l.drop n).length=l.toArray.size-n:=by simp
 have:=soundO (Q:=Q) hB (fun listed a' w' hq hF=>by
  have:=wpAny_of_seq (md:=.any) (Q':=Q) (l.drop n) n listed a' w' (fun j=>by simp[List.getElem?_drop]) (by rw[hdl];exact hq) hF
  rwa [hdl] at this) n (List.range n) a w.drew (Array.replicate l.toArray.size false) (by simp) inv0
  (fun j=>by
   rw[List.mem_range]
   constructor
   ·intro hj;refine⟨hj,?_⟩
    have:j<l.toArray.size:=by omega
    simp at this;simp[this]
   ·exact fun h=>h.1)
  List.pairwise_lt_range h hS
 rw[show n+(l.toArray.size-n)=l.toArray.size by omega] at this;exact this
theorem pure(q:Nat){n:Nat}{rest:List Nat}{a:Act}{w:World}{o:Oper}{v:Value}(hq:rest.contains q=true)(hr:rdy ops rest q=true)(hN:N q=false)(ho:ops.toList[q]? = some o)(hw:Region.wanted o (yielded ops a.tmps)=true)
  (hv:∀ w,S w->(execOp a.eval o).run P w=.ok (.value v) w) (h:AW P ops S N F n (rest.erase q) (a.put o.dst v) w):AW P ops S N F (n+1) rest a w :=
 .inl ⟨q,by simpa using hq,hN,hr,o,by simpa using ho,v,.inl ⟨hw,hv⟩,h⟩
def readyOf(ops:Array Oper)(rest:List Nat):List Nat:=rest.filter (rdy ops rest)
theorem fork{n:Nat}{rest rs:List Nat}{a:Act}{w:World}(hall:(rest.all fun q=>N q || !rdy ops rest q)=true)(hrs:readyOf ops rest=rs)
  (h:∀ j∈rs,∃ o,ops.toList[j]? = some o/\((Region.wanted o (yielded ops a.tmps)=false/\AW P ops S N F n (rest.erase j) (a.put o.dst undef) w)\/(Region.wanted o (yielded ops a.tmps)=true/\Gives P o a w (fun v w'=>S w'/\AW P ops S N F n (rest.erase j) (a.put o.dst v) w')))):AW P ops S N F (n+1) rest a w :=
 .inr ⟨hall,fun j hj hr=>by
  obtain⟨o,ho,h⟩:=h j (by rw[<-hrs];exact List.mem_filter.2 ⟨hj,hr⟩)
  exact⟨o,by simpa using ho,h⟩⟩
theorem one{n:Nat}{rest:List Nat}{a:Act}{w:World}(j:Nat){o:Oper}(hall:(rest.all fun q=>N q || !rdy ops rest q)=true)(hrs:readyOf ops rest=[j])(ho:ops.toList[j]? = some o)(hw:Region.wanted o (yielded ops a.tmps)=true)
  (h:Gives P o a w (fun v w'=>S w'/\AW P ops S N F n (rest.erase j) (a.put o.dst v) w')):AW P ops S N F (n+1) rest a w :=
 fork hall hrs fun i hi=>by
  obtain rfl:=List.mem_singleton.1 hi
  exact⟨o,ho,.inr ⟨hw,h⟩⟩
theorem two{n:Nat}{rest:List Nat}{a:Act}{w:World}(j k:Nat){o p:Oper}(hall:(rest.all fun q=>N q || !rdy ops rest q)=true)(hrs:readyOf ops rest=[j,k])(ho:ops.toList[j]? = some o)(hw:Region.wanted o (yielded ops a.tmps)=true)(hp:ops.toList[k]? = some p)(hw':Region.wanted p (yielded ops a.tmps)=true)
  (h:Gives P o a w (fun v w'=>S w'/\AW P ops S N F n (rest.erase j) (a.put o.dst v) w')) (h':Gives P p a w (fun v w'=>S w'/\AW P ops S N F n (rest.erase k) (a.put p.dst v) w')):AW P ops S N F (n+1) rest a w :=
 fork hall hrs fun i hi=>by
  rcases List.mem_cons.1 hi with rfl|hi
  ·exact⟨o,ho,.inr ⟨hw,h⟩⟩
  ·obtain rfl:=List.mem_singleton.1 hi
   exact⟨p,hp,.inr ⟨hw',h'⟩⟩
theorem done{a:Act}{w:World}(h:F a w):AW P ops S N F 0 [] a w:=⟨rfl,h⟩
end
end Or
end Go.Proofs.YtjnllcnknjlmmaaGreat
namespace Go.Proofs.YtjnllcnknjlmmaaGreat
namespace Lift
open Go Go.ChangeShapes Go.WideShapes Go.ChangeAt Go.RowKit
variable {H:Type} {enc:TypeId × Value->H} {P:Program}
theorem args_stay(hl:laidOutB P=true){W W':World}(hb:Below W.heap.size W W'):∀ {ts:List TypeId} {vs:List Value} {ds:List (DataW H)} {ps:List MemPlace},(ts.all fun t=>P.readableRec t&&decide (t<P.types.size))=true ->
  DataW.TrodAll enc P W 0 (fun _=>true) true ts vs ds ps->DataW.TrodAll enc P W' 0 (fun b=>decide (b<W.heap.size)) true ts vs ds ps
 | [],vs,ds,ps,_,h=>by
  obtain⟨rfl,rfl,rfl⟩:=trodAll_nil h
  exact trodAll_mk0
 | t::ts,vs,ds,ps,hts,h=>by
  obtain⟨v,vs',d,ds',p,q,rfl,rfl,rfl,h1,h2⟩:=trodAll_cons h
  simp only[List.all_cons,Bool.and_eq_true,decide_eq_true_eq] at hts
  have lt:∀ x∈p,x.block<W.heap.size:=by obtain⟨m,hm⟩:=h1;exact DataW.trod_lt m _ _ _ hm
  exact trodAll_cons_mk (Below.trod hl hts.1.1 hts.1.2 h1 hb lt) (args_stay hl hb (by simpa using hts.2) h2)
theorem open_bytes{W:World}{r:Reach}{base:Nat}{t e:TypeId}{v:Value}{d:DataW H}{p:List MemPlace}(ht:P.underlying t=some (.slice e))(he:P.underlying e=some (.int .u8))(hc:P.cellsOf e=1)(hv:Value.okWide P W r base t v)
  (h:DataW.Trod enc P W 0 (fun _=>true) true t v d p):∃ A n c,∃ bs:List (BitVec 8),v=.slice A n c/\n=bs.length/\Li.Rd W A (bs.map Li.v8):=by
 obtain⟨A,n,c,rfl⟩:=okWide_slice ht hv
 obtain⟨fuel,hf⟩:=h
 rcases open_ints ht he hc hf with ⟨hcs,_⟩|⟨x,l,c',zs,hcs,_,hl,hm,hz,_,hcell,hwz⟩
 ·simp[Value.cells] at hcs
  obtain⟨rfl,rfl,rfl⟩:=hcs
  exact⟨none,0,0,[],rfl,rfl,.inl rfl⟩
 ·simp[Value.cells] at hcs
  obtain⟨rfl,rfl,rfl⟩:=hcs
  simp only[if_true] at hz;refine⟨some x,n,c,(zs.take n).map (BitVec.ofInt 8),rfl,by simp;omega,?_⟩
  by_cases h0:n=0
  ·subst h0;exact .inl (by simp)
  ·obtain⟨b,off,spot⟩:=x
   have hc0:=hcell 0 (by omega)
   have hspot:spot=none:=by simpa [Addr.add] using World.cell?_spot hc0
   subst hspot;refine .inr ⟨b,off,rfl,fun i hi=>?_⟩;simp only[List.length_map,List.length_take] at hi
   have hci:=hcell i (by omega)
   rw[Addr.add_lit] at hci;rw[hci]
   have hiz:i<zs.length:=by omega
   have hw:=hwz (zs[i]) (List.getElem_mem hiz)
   have hr:0<=zs[i]/\zs[i]<=255:=by simpa [Lit.wf,IntKind.min,IntKind.max,IntKind.signed,IntKind.bits] using hw
   have e1:(zs.take n)[i]? = some zs[i]:=by rw[List.getElem?_take_of_lt (by omega),List.getElem?_eq_getElem hiz]
   simp only[List.map_map,List.getElem?_map,e1,Option.map_some,Function.comp,Li.v8,Bv.n8_of];rw[List.getD_eq_getElem?_getD,List.getElem?_eq_getElem hiz];simp only[Option.getD_some,Option.some.injEq,Value.int.injEq,true_and];omega
theorem rd_ints{W:World}{x:Addr}{zs:List Int}{n:Nat}(hn:n<=zs.length)(hcell:∀ i,i<zs.length->W.cell? (x.add i)=some (.int .u8 (zs.getD i 0)))(hwz:∀ z∈zs,(Lit.int .u8 z).wf=true):Li.Rd W (some x) (((zs.take n).map (BitVec.ofInt 8)).map Li.v8):=by
 by_cases h0:n=0
 ·subst h0;exact .inl (by simp)
 ·obtain⟨b,off,spot⟩:=x
  have hc0:=hcell 0 (by omega)
  have hspot:spot=none:=by simpa [Addr.add] using World.cell?_spot hc0
  subst hspot;refine .inr ⟨b,off,rfl,fun i hi=>?_⟩;simp only[List.length_map,List.length_take] at hi
  have hci:=hcell i (by omega)
  rw[Addr.add_lit] at hci;rw[hci]
  have hiz:i<zs.length:=by omega
  have hw:=hwz (zs[i]) (List.getElem_mem hiz)
  have hr:0<=zs[i]/\zs[i]<=255:=by simpa [Lit.wf,IntKind.min,IntKind.max,IntKind.signed,IntKind.bits] using hw
  have e1:(zs.take n)[i]? = some zs[i]:=by rw[List.getElem?_take_of_lt (by omega),List.getElem?_eq_getElem hiz]
  simp only[List.map_map,List.getElem?_map,e1,Option.map_some,Function.comp,Li.v8,Bv.n8_of];rw[List.getD_eq_getElem?_getD,List.getElem?_eq_getElem hiz];simp only[Option.getD_some,Option.some.injEq,Value.int.injEq,true_and];omega
end Lift
end Go.Proofs.YtjnllcnknjlmmaaGreat
namespace Go.Proofs.YtjnllcnknjlmmaaGreat
open Go Go.RowKit
namespace Se
open Li (Blk Rd Fr)
section
variable {w0 w:World} {X:List Nat} {L:List At}
theorem St.u11{x0 y0:At}(h:St w0 X (x0::y0::L) w):St w0 X (y0::x0::L) w:=h.perm (by rw[show x0::y0::L=([x0]++[y0])++L from rfl,show y0::x0::L=([y0]++[x0])++L from rfl];exact List.Perm.append_right L List.perm_append_comm)
end
section
variable {P:Program} {w0 w:World} {X:List Nat} {L:List At} {o:Oper} {a:Act} {G:Value->World->Prop}
theorem soq(k:Nat)(hs:St w0 X L w){ty:TypeId}{x y:Operand}(ho:o.op=.store ty x y){g i:Nat}(hx:a.eval x=.pointer (some ⟨g,i,none⟩)){t:TypeId}{l ys:List Value}(hk:L[k]? = some (.blk g t l)){v:Value}(hy:a.eval y=v)(h1:v.oneCell'=true)(hi:(P.info? ty).map (·.size)=some 1)(hl:i<l.length)(hys:l.set i v=ys)
  (h:∀ w',St w0 X (L.set k (.blk g t ys)) w'->G undef w'):Hv.Gives P o a w G:=by
 subst hys;exact so k hs ho hx hk hy h1 hi hl h
end
def resOk(P:Program)(L:List At)(tmps:Array Value):List ResultVar->List Value->Prop
 | [],[]=>True
 | .tmp t::rs,v::vs=>tmps.getD t undef=v/\resOk P L tmps rs vs
 | .cell p ty::rs,v::vs=>(∃ g xs,tmps.getD p undef=.pointer (some ⟨g,0,none⟩)/\Reads L (some ⟨g,0,none⟩) xs/\(P.underlying ty).map TypeDesc.isRow=some true/\(P.info? ty).map (·.size)=some xs.length/\v=.agg xs.toArray)/\resOk P L tmps rs vs
 | _,_=>False
theorem run_loadVar_reads{P:Program}{w0 w:World}{X:List Nat}{L:List At}(hs:St w0 X L w){g:Nat}{ty:TypeId}{xs:List Value}(hr:Reads L (some ⟨g,0,none⟩) xs)(hd:(P.underlying ty).map TypeDesc.isRow=some true)(hi:(P.info? ty).map (·.size)=some xs.length):(loadVar ty ⟨g,0,none⟩).run P w=.ok (.agg xs.toArray) w:=by
 cases hu:P.underlying ty with
 | none=>simp[hu] at hd
 | some d =>
  simp only[hu,Option.map_some,Option.some.injEq] at hd
  have hc:w.rangeAt g 0 xs:=fun j v hv=>hr.cell j hv w hs.hold
  have h:=run_loadAt_mid (P:=P) w g 0 ty xs d hc hu hd hi
  simpa [Instr.loadAt,Instr.sureAddr] using h
def resF(tmps:Array Value):ResultVar->Sem Value
 | .tmp t=>pure (tmps.getD t undef)
 | .cell a t=>do loadVar t (<-asAddr (tmps.getD a undef))
theorem run_results{P:Program}{w0 w:World}{X:List Nat}{L:List At}(hs:St w0 X L w){fn:Func}{tmps:Array Value}{rs:List ResultVar}{vs:List Value}(hr:fn.results=rs.toArray)(h:resOk P L tmps rs vs)(h2:2<=vs.length):(results fn tmps).run P w=.ok (.tuple vs.toArray) w:=by
 have key:∀ (rs:List ResultVar) (vs:List Value),resOk P L tmps rs vs->(rs.mapM (resF tmps)).run P w=.ok vs w:=by
  intro rs
  induction rs with
  | nil =>
   intro vs h
   cases vs with
   | nil=>simp
   | cons v vs=>simp[resOk] at h
  | cons r rs ih =>
   intro vs h
   cases vs with
   | nil=>cases r <;> simp[resOk] at h
   | cons v vs =>
    cases r with
    | tmp t =>
     obtain⟨h1,h2⟩:=h
     have:=ih vs h2
     simp only[List.mapM_cons,Sem.run_bind,Sem.run_pure,Result.andThen_ok,this,h1,resF]
    | cell p ty =>
     obtain⟨⟨g,xs,h1,h3,h4,h5,rfl⟩,h2⟩:=h
     have:=ih vs h2
     simp only[List.mapM_cons,Sem.run_bind,Sem.run_pure,Result.andThen_ok,this,h1,resF,asAddr,run_loadVar_reads hs h3 h4 h5]
 have hk:=key rs vs h
 have e:results fn tmps=(do
   let vs <-fn.results.mapM (resF tmps)
   pure (if h:vs.size=1 then vs[0] else .tuple vs)):=rfl
 rw[e,hr];simp only[Sem.run_bind]
 have e2:Sem.run P (Array.mapM (resF tmps) rs.toArray) w=.ok vs.toArray w:=by
  rw[List.mapM_toArray,map_eq_pure_bind,Sem.run_bind,hk];simp
 rw[e2];simp only[Result.andThen_ok,Sem.run_pure,List.size_toArray,dif_neg (show ¬ vs.length=1 by omega)]
theorem ret{P:Program}{w0 w:World}{X:List Nat}{L:List At}(hs:St w0 X L w){fn:Func}{R:Ending->World->Prop}{a:Act}{rs:List ResultVar}(vs:List Value)(hr:fn.results=rs.toArray)(h:resOk P L a.tmps rs vs)(h2:2<=vs.length)(hdf:a.defers=[])(hR:R (.returned (.tuple vs.toArray)) w):bodyPost P fn R .ret a w :=
 bodyPost_ret (run_results hs hr h h2) hdf hR
theorem resRow{P:Program}{L:List At}{tmps:Array Value}{p:Tmp}{g:Nat}{ty:TypeId}{xs:List Value}(h1:tmps.getD p undef=.pointer (some ⟨g,0,none⟩))(hr:Reads L (some ⟨g,0,none⟩) xs)(hd:(P.underlying ty).map TypeDesc.isRow=some true)(hi:(P.info? ty).map (·.size)=some xs.length):∃ g xs',tmps.getD p undef=.pointer (some ⟨g,0,none⟩)/\Reads L (some ⟨g,0,none⟩) xs'/\(P.underlying ty).map TypeDesc.isRow=some true/\(P.info? ty).map (·.size)=some xs'.length/\Value.agg xs.toArray=.agg xs'.toArray:=⟨g,xs,h1,hr,hd,hi,rfl⟩
end Se
end Go.Proofs.YtjnllcnknjlmmaaGreat
namespace Go.Proofs.YtjnllcnknjlmmaaGreat
open Go Go.RowKit
namespace Se
open Li (Blk Rd Fr)
section
variable {P:Program} {w0 w:World} {X:List Nat} {L:List At} {o:Oper} {a:Act} {G:Value->World->Prop}
theorem bd{ty:TypeId}{parts:List (Nat × Operand)}(ho:o.op=.build ty parts.toArray){vs:List (Nat × Value)}(hv:parts.map (fun p=>(p.1,a.eval p.2))=vs){v:Value}(hb:(Instr.build ty vs.toArray).run P w=.ok v w)(h:G v w):Hv.Gives P o a w G:=by
 subst hv;unfold Hv.Gives execOp
 have e:(parts.toArray.map fun(i,x)=>(i,a.eval x))=(parts.map (fun p=>(p.1,a.eval p.2))).toArray:=by simp
 simp only[ho,e,Sem.run_bind,hb,Result.andThen_ok,Sem.run_pure];exact h
theorem foldl_set(off:Nat)(xs:List Value):∀ (k:Nat) (cs:Array Value),off+k+xs.length<=cs.size->((xs.zipIdx k).foldl (fun cs (p:Value × Nat)=>cs.setIfInBounds (off+p.2) p.1) cs).toList=cs.toList.take (off+k)++xs++cs.toList.drop (off+k+xs.length):=by
 induction xs with
 | nil=>intro k cs h;simp
 | cons x xs ih =>
  intro k cs h
  have e:((x::xs).zipIdx k).foldl (fun cs (p:Value × Nat)=>cs.setIfInBounds (off+p.2) p.1) cs=(xs.zipIdx (k+1)).foldl (fun cs (p:Value × Nat)=>cs.setIfInBounds (off+p.2) p.1) (cs.setIfInBounds (off+k) x):=by simp
  rw[e,ih (k+1) _ (by simp at h ⊢;omega)];simp only[Array.toList_setIfInBounds]
  have:=list_seg_step cs.toList (off+k) x xs (by simp at h ⊢;omega)
  rw[<-Nat.add_assoc,this];simp[Nat.add_assoc]
theorem fill_row{s:Nat}{cs0:Array Value}(h0:cs0.size=s){xs:List Value}(hx:xs.length=s):Instr.fill (fun i=>some (i*s,s)) cs0 [(0,.agg xs.toArray)]=some xs.toArray:=by
 have e:=foldl_set (0*s) xs 0 cs0 (by omega)
 rw[Nat.zero_mul,Nat.add_zero,List.take_zero,List.nil_append,Nat.zero_add,List.drop_eq_nil_of_le (by simp;omega),List.append_nil] at e;simp only[Instr.fill,Value.cells,Nat.zero_mul,Nat.zero_add] at e ⊢;rw[if_neg (by simp;omega)]
 have e3:xs.toArray.zipIdx=xs.zipIdx.toArray:=by apply Array.toList_inj.1;simp
 rw[e3,List.foldl_toArray]
 congr 1
 apply Array.toList_inj.1
 exact e
theorem bs1(hs:St w0 X L w){ty:TypeId}{x:Operand}(ho:o.op=.buildSlice ty 1 #[(0,x)]){e:TypeId}(ht:P.underlying ty=some (.slice e)){z:Value}{s b:Nat}(hi:(P.info? e).map (fun i=>(i.zero,i.size,i.bytes))=some (some z,s,b))(hb:s<=16777216)(h0:s≠0){xs:List Value}(hx:a.eval x=.agg xs.toArray)(hl:xs.length=s)
  (h:∀ (w':World) (g:Nat),g=w.heap.size->St w0 X (.blk g e xs::L) w'->G (.slice (some ⟨g,0,none⟩) 1 1) w'):Hv.Gives P o a w G:=by
 refine bs hs ho ht (z:=z) (s:=s) ?_ (by omega) (by omega) (cs:=xs.toArray) ?_ h
 ·cases hq:P.info? e with
  | none=>simp[hq] at hi
  | some i =>
   simp[hq] at hi ⊢;exact⟨hi.1,hi.2.1⟩
 ·simp only[List.map_toArray,List.map_cons,List.map_nil,hx]
  exact fill_row (by simp) hl
end
end Se
end Go.Proofs.YtjnllcnknjlmmaaGreat
namespace Go.Proofs.YtjnllcnknjlmmaaGreat
open Go Go.ChangeShapes Go.WideShapes Go.ChangeAt Go.RowKit
namespace Lift
variable {P:Program}
end Lift
end Go.Proofs.YtjnllcnknjlmmaaGreat
namespace Go.Proofs.YtjnllcnknjlmmaaGreat
open Go Go.ChangeShapes Go.WideShapes Go.ChangeAt Go.RowKit
namespace Lift
end Lift
end Go.Proofs.YtjnllcnknjlmmaaGreat
namespace Go.Proofs.YtjnllcnknjlmmaaGreat
open Go Go.RowKit
namespace Se
open Li (Blk Rd Fr)
section
variable {P:Program} {w0 w:World} {X:List Nat} {L:List At} {o:Oper} {a:Act} {G:Value->World->Prop}
theorem zeroCells_one{z:Value}(hz:z.cells=#[z])(m:Nat):Builtin.zeroCells z.cells m=(List.replicate m z).toArray:=by
 unfold Builtin.zeroCells;rw[hz]
 apply Array.ext
 ·simp
 ·intro i h1 h2
  simp[Nat.mod_one]
theorem run_append_zero{t u ty e:TypeId}{z:Value}(ht:P.underlying t=some (.slice e))(hu:P.underlying u=some (.int .i64))(hinfo:(P.info? e).map (fun i=>(i.zero,i.size,i.bytes))=some (some z,1,1))(hz:z.cells=#[z])(h1:z.oneCell'=true)
  {r:Option Nat} {A:Option Addr} {c n m:Nat} {xs:List Value} (hO:Ow w 1 r A n c xs) (hle:n+m<=140737488355328) :
  ∃ A' c' r' w',(Builtin.append_ #[t,u] ty #[.slice A n c,.int .i64 m]).run P w=.ok (.slice A' (n+m) c') w'/\Ow w' 1 r' A' (n+m) c' (xs++List.replicate m z)/\w.grownBy w' r/\(r'=r\/r'=some w.heap.size):=by
 cases hi:P.info? e with
 | none=>simp[hi] at hinfo
 | some i =>
  simp only[hi,Option.map_some,Option.some.injEq,Prod.mk.injEq] at hinfo
  obtain⟨hz1,hs1,hby⟩:=hinfo
  obtain⟨hxl,hnc,hcase⟩:=hO
  have hmax:(maxLen:Nat)=9223372036854775807:=rfl
  have hwrap:IntKind.i64.wrap (m:Int)=m:=IntWalk.i64_in _ (by omega)
  have hneg:¬ ((m:Int)<0):=by omega
  have h48:¬ ((281474976710656:Int)<(m:Int)):=by omega
  by_cases hroom:n+m<=c
  ·rcases hcase with ⟨rfl,rfl⟩|⟨g,off,l,t',rfl,rfl,hb,hl,hmx,hx⟩
   ·have:n=0:=by omega
    have:m=0:=by omega
    subst n m
    have:xs=[]:=by simpa using hxl
    subst this;refine⟨A,0,none,w,?_,⟨by simp,Nat.le_refl _,.inl ⟨rfl,rfl⟩⟩,⟨rfl,rfl,rfl,Nat.le_refl _,fun _ _ _=>rfl⟩,.inl rfl⟩
    cases A <;> simp[Builtin.append_,run_underlying ht,run_underlying hu,sizeOf,typeInfo,hi,hs1,hby,asInt,asIntOf,show IntKind.i64.wrap 0=0 from rfl,storeCells]
   ·have hst:=run_storeCells_cells (P:=P) g (off+n) (List.replicate m z) 0 w (by intro j hj;rw[hb.cell];simp at hj ⊢;omega) (by intro j hj;exact hb.frozen _) (by intro v hv;rw[List.eq_of_mem_replicate hv];exact h1)
    simp only[Nat.add_zero] at hst;refine⟨some ⟨g,off,none⟩,c,some g,w.setCells g (off+n) (List.replicate m z),?_,?_,?_,.inl rfl⟩
    ·rcases Nat.eq_zero_or_pos m with rfl|hm
     ·simp[Builtin.append_,run_underlying ht,run_underlying hu,sizeOf,typeInfo,hi,hs1,hby,asInt,asIntOf,show IntKind.i64.wrap 0=0 from rfl,storeCells,show n<=c by omega,World.setCells]
     ·have hm0:¬ m=0:=by omega
      have hzc:=zeroCells_one hz m
      simp[Builtin.append_,run_underlying ht,run_underlying hu,sizeOf,typeInfo,zeroValue,hi,hs1,hz1,hby,asInt,asIntOf,hwrap,hneg,h48,hm0,hroom,Addr.add_lit,hst,hzc]
    ·refine⟨by simp[hxl],hroom,.inr ⟨g,off,_,t',rfl,rfl,hb.setCells _ (off+n) (by simp;omega),?_,hmx,?_⟩⟩
     ·simp;omega
     ·have e1:(l.take (off+n)++List.replicate m z++l.drop (off+n+(List.replicate m z).length)).drop off=xs++List.replicate m z++l.drop (off+n+m):=by
       rw[List.append_assoc,List.drop_append_of_le_length (by rw[List.length_take];omega),List.drop_take,Nat.add_sub_cancel_left,<-hx];simp
      rw[e1]
      have:(n+m)*1=(xs++List.replicate m z).length:=by simp[hxl]
      rw[this];exact List.take_left
    ·exact⟨(Li.below_setCells _ _ w g (Below.refl 0 w) (Nat.zero_le _)).os,(Li.below_setCells _ _ w g (Below.refl 0 w) (Nat.zero_le _)).tape,(Li.below_setCells _ _ w g (Below.refl 0 w) (Nat.zero_le _)).output,by rw[Li.size_setCells];exact Nat.le_refl _,fun k _ hk=>Li.heap_setCells_other _ _ w g k (fun h=>hk (by rw[h]))⟩
  ·have hge:=grownCap_ge w (n+m) c e
   have hcm:=grownCap_le_maxLen w (n+m) c e (by omega)
   have hm0:¬ m=0:=by omega
   have hfit:=growslice_fits (need:=n+m) (old:=c) (bytes:=1) (by omega) (by omega)
   have h63':¬ (9223372036854775807<((n:Int)+(m:Int))):=by omega
   have h48':¬ (281474976710656<Builtin.nextslicecap (n+m) c):=by simpa using hfit
   have hold:(Builtin.firstCells 1 n (.slice A n c)).run P w.drew=.ok xs.toArray w.drew:=by
    rcases hcase with ⟨rfl,rfl⟩|⟨g,off,l,t',rfl,rfl,hb,hl,hmx,hx⟩
    ·have:n=0:=by omega
     subst n
     have:xs=[]:=by simpa using hxl
     subst this
     cases A with
     | none=>exact run_firstCells_none w.drew 1 0 0 0
     | some b=>exact run_firstCells_some w.drew 1 0 b 0 0 [] (by simp) (by simp)
    ·refine run_firstCells_some w.drew 1 n _ n c xs hxl fun j v hv=>?_
     have hj:=(List.getElem?_eq_some_iff.1 hv).1
     rw[Addr.add_lit]
     show w.cell? _=_
     rw[hb.cell]
     have:xs[j]? = l[off+j]?:=by
      rw[<-hx,List.getElem?_take_of_lt (by omega),List.getElem?_drop]
     rw[<-this,hv]
   have hzc:=zeroCells_one hz
   refine⟨some ⟨w.heap.size,0,none⟩,grownCap w (n+m) c e,some w.heap.size,w.drew.alloc (.cells (xs.toArray++(List.replicate m z).toArray++(List.replicate (grownCap w (n+m) c e-(n+m)) z).toArray) e),?_,?_,⟨rfl,rfl,rfl,by simp,fun k hk _=>Below.heap_alloc w.drew _ k hk⟩,.inr rfl⟩
   ·simp[Builtin.append_,run_underlying ht,run_underlying hu,sizeOf,typeInfo,zeroValue,hi,hs1,hz1,hby,asInt,asIntOf,hwrap,hneg,h48,hm0,hroom,h63',h48',Question.forced,hold,hzc,newRow,grownCap]
   ·refine⟨by simp[hxl],hge,.inr ⟨w.heap.size,0,(xs++List.replicate m z++List.replicate (grownCap w (n+m) c e-(n+m)) z),e,rfl,rfl,by have h:=Blk.new w.drew (xs++List.replicate m z++List.replicate (grownCap w (n+m) c e-(n+m)) z) e;rw[show(xs++List.replicate m z++List.replicate (grownCap w (n+m) c e-(n+m)) z).toArray=xs.toArray++(List.replicate m z).toArray++(List.replicate (grownCap w (n+m) c e-(n+m)) z).toArray by simp only[List.append_toArray]] at h;exact h,?_,hcm,?_⟩⟩
    ·simp[hxl];omega
    ·have:(n+m)*1=(xs++List.replicate m z).length:=by simp[hxl]
     rw[List.drop_zero,this];exact List.take_left
theorem apn(k:Nat)(hs:St w0 X L w){x y:Operand}{t u e:TypeId}(ho:o.op=.call { callee:=.builtin .append,args:=#[x,y],argTypes:=#[t,u] })
  {r:Option Nat} {A:Option Addr} {n c m:Nat} (hx:a.eval x=.slice A n c) {q:Int} (hy:a.eval y=.int .i64 q) (hq:q=(m:Int)) {xs:List Value} (hk:L[k]? = some (.own 1 r A n c xs))
  {z:Value} (ht:P.underlying t=some (.slice e)) (hu:P.underlying u=some (.int .i64)) (hinfo:(P.info? e).map (fun i=>(i.zero,i.size,i.bytes))=some (some z,1,1)) (hz:z.cells=#[z]) (h1:z.oneCell'=true) (hle:n+m<=140737488355328)
  (h:∀ (w':World) (r':Option Nat) (A':Option Addr) (c':Nat),St w0 X (L.set k (.own 1 r' A' (n+m) c' (xs++List.replicate m z))) w'->G (.slice A' (n+m) c') w'):Hv.Gives P o a w G:=by
 subst hq
 obtain⟨A',c',r',w',hr,h2,h3,h4⟩:=run_append_zero (P:=P) (ty:=o.type) (m:=m) ht hu hinfo hz h1 (hs.hold _ (List.mem_of_getElem? hk)) hle
 unfold Hv.Gives execOp;simp only[ho,resolve,invoke,builtin,Sem.run_bind,Sem.run_pure,Result.andThen_ok,List.map_toArray,List.map_cons,List.map_nil,hx,hy,hr];exact h w' r' A' c' (St.appendAt k hk hs h2 h3 h4)
theorem St.own_take{s:Nat}{r:Option Nat}{A:Option Addr}{n c:Nat}{xs:List Value}(hs:St w0 X (.own s r A n c xs::L) w)(m:Nat)(hm:m<=n):St w0 X (.own s r A m c (xs.take (m*s))::L) w:=by
 refine St.turn (P:=[.own s r A n c xs]) (P':=[.own s r A m c (xs.take (m*s))]) hs (Fr.refl _ w) ?_ (by simp[At.noRd]) (by cases r <;> simp[ownedL,At.owned]) (by simp[ownedL,At.owned];intro b h;exact .inl h)
 have ho:Ow w s r A n c xs:=hs.hold _ List.mem_cons_self
 obtain⟨h1,h2,h3⟩:=ho
 have hle:m*s<=n*s:=Nat.mul_le_mul_right _ hm
 simp only[List.mem_singleton,forall_eq,At.holds];refine⟨by simp;omega,by omega,?_⟩
 rcases h3 with ⟨rfl,rfl⟩|⟨g,off,l,t,hA,hr,hb,h4,h5,h6⟩
 ·exact .inl ⟨rfl,rfl⟩
 ·exact .inr ⟨g,off,l,t,hA,hr,hb,h4,h5,by rw[<-h6,List.take_take,Nat.min_eq_left hle]⟩
end
end Se
end Go.Proofs.YtjnllcnknjlmmaaGreat
namespace Go.Proofs.YtjnllcnknjlmmaaGreat
namespace Gd
open Go Go.RowKit Hv Ch
def wb(v:Value)(t:Bool):Bool:=match v with
 | .bool b=>b==t
 | _=>false
def mv(b:Bool)(v:Value):Value:=match b with
 | true=>v
 | false=>undef
def pk(b:Bool)(x y:Value):Value:=match b with
 | true=>x
 | false=>y
theorem mv_of{b:Bool}{v:Value}(h:b=true):mv b v=v:=by subst h;rfl
theorem wb_true(b:Bool):wb (.bool b) true=b:=by cases b <;> rfl
theorem wb_false(b:Bool):wb (.bool b) false = !b:=by cases b <;> rfl
theorem wb_mv(b:Bool)(v:Value)(t:Bool):wb (mv b v) t=(b&&wb v t):=by cases b <;> rfl
theorem pk_or(b c:Bool):pk b (.bool true) (mv (!b) (.bool c))=.bool (b || c):=by cases b <;> rfl
section
variable {P:Program} {ops:Array Oper} {S:World->Prop} {N:Nat->Bool} {F:Act->World->Prop} {i:Nat} {rest:List Nat} {a:Act} {w:World} {o:Oper} {v:Value} {B:Bool}
theorem want_at{j d:Nat}{t:Bool}{u:Value}(hg:o.guard=some (j,t))(hd:(ops[j]?).bind (·.dst)=some d)(hv:a.tmps[d]? = some u):Region.wanted o (yielded ops a.tmps)=wb u t:=by
 unfold Region.wanted yielded;rw[hg];simp only[hd,Option.bind_some,hv]
 cases u <;> simp[wb]
theorem want_t{j d:Nat}{b:Bool}(hg:o.guard=some (j,true))(hd:(ops[j]?).bind (·.dst)=some d)(hv:a.tmps[d]? = some (.bool b)):Region.wanted o (yielded ops a.tmps)=b:=by rw[want_at hg hd hv,wb_true]
theorem want_f{j d:Nat}{b:Bool}(hg:o.guard=some (j,false))(hd:(ops[j]?).bind (·.dst)=some d)(hv:a.tmps[d]? = some (.bool b)):Region.wanted o (yielded ops a.tmps) = !b:=by rw[want_at hg hd hv,wb_false]
theorem want_mt{j d:Nat}{b:Bool}(hg:o.guard=some (j,true))(hd:(ops[j]?).bind (·.dst)=some d)(hv:a.tmps[d]? = some (mv B (.bool b))):Region.wanted o (yielded ops a.tmps)=(B&&b):=by rw[want_at hg hd hv,wb_mv,wb_true]
theorem want_mf{j d:Nat}{b:Bool}(hg:o.guard=some (j,false))(hd:(ops[j]?).bind (·.dst)=some d)(hv:a.tmps[d]? = some (mv B (.bool b))):Region.wanted o (yielded ops a.tmps)=(B && !b):=by rw[want_at hg hd hv,wb_mv,wb_false]
variable {K:Act->World->Prop} {d:Option Tmp} {op:Op} {ty:TypeId} {ps:String} {es:Array Edge} {gj:Nat × Bool} {c x y:Operand}
theorem look(ho:ops.toList[i]? = some o)(h:CStep P ops S N i o (CW P ops S N F rest) a w):CW P ops S N F (i::rest) a w:=⟨o,by simpa using ho,h⟩
theorem qp(hN:N i=false)(hg:o.guard=none)(hv:∀ w,S w->(execOp a.eval o).run P w=.ok (.value v) w)(h:K (a.put o.dst v) w):CStep P ops S N i o K a w:=by
 unfold CStep;simp only[hN];exact⟨v,.inl ⟨by simp[Region.wanted,hg],hv⟩,h⟩
theorem gp(hN:N i=false)(hw:Region.wanted o (yielded ops a.tmps)=B)
  (hv:B=true->∀ w,S w->(execOp a.eval o).run P w=.ok (.value v) w) (h:K (a.put o.dst (mv B v)) w):CStep P ops S N i o K a w:=by
 unfold CStep;simp only[hN]
 cases B with
 | true=>exact⟨v,.inl ⟨hw,hv rfl⟩,h⟩
 | false=>exact⟨undef,.inr ⟨hw,rfl⟩,h⟩
theorem gb{e:Bool}(hN:N i=false)(hw:Region.wanted o (yielded ops a.tmps)=B)
  (hv:B=true->∀ w,S w->(execOp a.eval o).run P w=.ok (.value v) w) (he:v=.bool e) (h:∀ c,Hid (c=e)->K (a.put o.dst (mv B (.bool c))) w):CStep P ops S N i o K a w :=
 gp hN hw (fun hb w hS=>by rw[hv hb w hS,he]) (h e (Lib.hid rfl))
theorem qb{e:Bool}(hN:N i=false)(hg:o.guard=none)
  (hv:∀ w,S w->(execOp a.eval o).run P w=.ok (.value v) w) (he:v=.bool e) (h:∀ c,Hid (c=e)->K (a.put o.dst (.bool c)) w):CStep P ops S N i o K a w :=
 qp hN hg (fun w hS=>by rw[hv w hS,he]) (h e (Lib.hid rfl))
theorem run_pick{b:Bool}(hop:o.op=.pick c x y)(hc:a.eval c=.bool b):(execOp a.eval o).run P w=.ok (.value (pk b (a.eval x) (a.eval y))) w:=by
 unfold execOp;simp only[hop,hc]
 cases b <;> rfl
theorem qpick{b e:Bool}(hop:o.op=.pick c x y)(hN:N i=false)(hg:o.guard=none)
  (hc:a.eval c=.bool b) (hv:pk b (a.eval x) (a.eval y)=v) (he:v=.bool e) (h:∀ c,Hid (c=e)->K (a.put o.dst (.bool c)) w):CStep P ops S N i o K a w :=
 qb hN hg (fun w _=>by rw[run_pick hop hc,hv]) he h
theorem gn{T:World->Prop}(ho:ops.toList[i]? = some o)(hN:N i=true)(hw:Region.wanted o (yielded ops a.tmps)=B)(h0:T w)
  (h1:B=true->Gives P o a w (fun v' w'=>v'=v/\T w')) (h:∀ w',T w'->S w'/\CW P ops S N F rest (a.put o.dst (mv B v)) w'):CW P ops S N F (i::rest) a w :=
 look ho (by
  unfold CStep;simp only[hN]
  cases B with
  | true=>exact .inr ⟨hw,(h1 rfl).mono fun v' w' ⟨e,h2⟩=>by subst e;exact h _ h2⟩
  | false=>exact .inl ⟨hw,(h _ h0).2⟩)
end
end Gd
end Go.Proofs.YtjnllcnknjlmmaaGreat
namespace Go.Proofs.YtjnllcnknjlmmaaGreat
open Go Go.RowKit
theorem pU:(∀ (ts:Array Value) (ds) (k:Nat) (v:Value),(Act.mk ts ds).put (some k) v=Act.mk (ts.setIfInBounds k v) ds)/\(∀ (A:Act) (v:Value),A.put none v=A)/\(∀ {α:Type} (l:List α) (k:Nat) (a:α),l.toArray.setIfInBounds k a=(l.set k a).toArray)/\(∀ {α:Type} (a b:α) (l:List α),(a::l).set 0 b=b::l)/\(∀ {α:Type} (a b:α) (l:List α) (n:Nat),(a::l).set (n+1) b=a::l.set n b):=⟨fun _ _ _ _=>rfl,fun _ _=>rfl,fun _ _ _=>List.setIfInBounds_toArray _ _ _,fun _ _ _=>rfl,fun _ _ _ _=>rfl⟩
theorem pS:(∀ (a:Se.At) (l m:List Se.At),a::l++m=a::(l++m))/\(∀ m:List Se.At,[]++m=m)/\(∀ (a b:Se.At) (l:List Se.At),(a::l).set 0 b=b::l)/\(∀ (a b:Se.At) (l:List Se.At) (n:Nat),(a::l).set (n+1) b=a::l.set n b):=⟨fun _ _ _=>rfl,fun _=>rfl,fun _ _ _=>rfl,fun _ _ _ _=>rfl⟩
namespace Se
open Li (Blk Rd Fr)
section
variable {P:Program} {w0 w:World} {X:List Nat} {L:List At} {o:Oper} {a:Act} {ops:Array Oper} {rest:List Oper} {Q:Exit->Act->World->Prop} {op:Op} {t0:TypeId} {ps:String} {es:Array Edge} {gd:Option (Nat × Bool)}
theorem iL(k:Nat)(h:wpList P ops Q (⟨some k,op,t0,ps,es,gd⟩::rest) a w):wpList P ops Q (⟨some k,op,t0,ps,es,gd⟩::rest) a w:=h
theorem iN(h:wpList P ops Q (⟨none,op,t0,ps,es,gd⟩::rest) a w):wpList P ops Q (⟨none,op,t0,ps,es,gd⟩::rest) a w:=h
theorem xL{ρ:Operand->Value}{g i:Nat}{v:Value}{ty:TypeId}{x:Operand}(ho:o.op=.load ty x:=by rfl)(hx:ρ x=.pointer (some ⟨g,i,none⟩):=by rfl)(hc:w.cell? ⟨g,i,none⟩=some v)(hd:(P.underlying ty).map TypeDesc.isRow=some false:=by decide +kernel):(execOp ρ o).run P w=.ok (.value v) w:=xl ho hx hc hd
theorem xR{ρ:Operand->Value}{ty:TypeId}{x:Operand}{g i:Nat}{xs:List Value}(ho:o.op=.load ty x:=by rfl)(hx:ρ x=.pointer (some ⟨g,i,none⟩):=by rfl)(hr:Rd w (some ⟨g,i,none⟩) xs)(hi:(P.info? ty).map (·.size)=some xs.length:=by kernel_rfl)(hd:(P.underlying ty).map TypeDesc.isRow=some true:=by decide +kernel):(execOp ρ o).run P w=.ok (.value (.agg xs.toArray)) w:=xla ho hx hr hi hd
theorem Ld(hs:St w0 X L w){ty:TypeId}{x:Operand}(ho:o.op=.load ty x){g i:Nat}(hx:a.eval x=.pointer (some ⟨g,i,none⟩)){v:Value}(hc:Cell L g i v)(h:wpList P ops Q rest (a.put o.dst v) w)(hw:Region.wanted o (yielded ops a.tmps)=true:=by rfl)(hd:(P.underlying ty).map TypeDesc.isRow=some false:=by kernel_rfl):wpList P ops Q (o::rest) a w:=toL hw (ld hs ho hx hc hd h)
theorem Ldw(hs:St w0 X L w){ty:TypeId}{x:Operand}(ho:o.op=.load ty x){g i:Nat}(hx:a.eval x=.pointer (some ⟨g,i,none⟩)){xs:List Value}(hr:Reads L (some ⟨g,i,none⟩) xs)(hi:(P.info? ty).map (·.size)=some xs.length)(h:wpList P ops Q rest (a.put o.dst (.agg xs.toArray)) w)(hw:Region.wanted o (yielded ops a.tmps)=true:=by rfl)(hd:(P.underlying ty).map TypeDesc.isRow=some true:=by kernel_rfl):wpList P ops Q (o::rest) a w:=toL hw (ldw hs ho hx hr hi hd h)
theorem Al(hs:St w0 X L w){ty:TypeId}(ho:o.op=.alloc ty){l:List Value}(hz:(P.info? ty).bind (fun i=>i.zero.map (·.cells.toList))=some l)
  (h:∀ (w':World) (g:Nat),g=w.heap.size->St w0 X (.blk g ty l::L) w'->wpList P ops Q rest (a.put o.dst (.pointer (some ⟨g,0,none⟩))) w') (hw:Region.wanted o (yielded ops a.tmps)=true:=by rfl):wpList P ops Q (o::rest) a w:=toL hw (al hs ho hz h)
theorem Bd{ty:TypeId}{parts:List (Nat × Operand)}(ho:o.op=.build ty parts.toArray){vs:List (Nat × Value)}(hv:parts.map (fun p=>(p.1,a.eval p.2))=vs){v:Value}(hb:(Instr.build ty vs.toArray).run P w=.ok v w)(h:wpList P ops Q rest (a.put o.dst v) w)(hw:Region.wanted o (yielded ops a.tmps)=true:=by rfl):wpList P ops Q (o::rest) a w:=toL hw (bd ho hv hb h)
theorem Sow(k:Nat)(hs:St w0 X L w){ty:TypeId}{x y:Operand}(ho:o.op=.store ty x y){g:Nat}(hx:a.eval x=.pointer (some ⟨g,0,none⟩)){t:TypeId}{l:List Value}(hk:L[k]? = some (.blk g t l)){vs:List Value}(hy:a.eval y=.agg vs.toArray)(h1:∀ v∈vs,v.oneCell'=true)(hi:(P.info? ty).map (·.size)=some vs.length)(hl:vs.length=l.length)
  (h:∀ w',St w0 X (L.set k (.blk g t vs)) w'->wpList P ops Q rest (a.put o.dst undef) w') (hw:Region.wanted o (yielded ops a.tmps)=true:=by rfl):wpList P ops Q (o::rest) a w:=toL hw (sow k hs ho hx hk hy h1 hi hl h)
theorem So(k:Nat)(hs:St w0 X L w){ty:TypeId}{x y:Operand}(ho:o.op=.store ty x y){g i:Nat}(hx:a.eval x=.pointer (some ⟨g,i,none⟩)){t:TypeId}{l:List Value}(hk:L[k]? = some (.blk g t l)){v:Value}(hl:i<l.length)
  (h:∀ w',St w0 X (L.set k (.blk g t (l.set i v))) w'->wpList P ops Q rest (a.put o.dst undef) w') (hy:a.eval y=v:=by first|exact(rfl:_=Value.int _ _)|exact(rfl:_=Value.bool _)|exact(rfl:_=Value.slice _ _ _)|exact(rfl:_=Value.pointer _)|exact(rfl:_=Value.string _)|exact(rfl:_=Value.map _)|exact(rfl:_=Value.func _ _ _)|exact(rfl:_=Value.nilFunc)) (h1:v.oneCell'=true:=by rfl) (hi:(P.info? ty).map (·.size)=some 1:=by kernel_rfl) (hw:Region.wanted o (yielded ops a.tmps)=true:=by rfl):wpList P ops Q (o::rest) a w:=toL hw (so k hs ho hx hk hy h1 hi hl h)
theorem Soo(k:Nat)(hs:St w0 X L w){ty:TypeId}{x y:Operand}(ho:o.op=.store ty x y){g off i:Nat}(hx:a.eval x=.pointer (some ⟨g,off+i,none⟩)){s n c:Nat}{xs:List Value}(hk:L[k]? = some (.own s (some g) (some ⟨g,off,none⟩) n c xs)){v:Value}(hl:i<xs.length)
  (h:∀ w',St w0 X (L.set k (.own s (some g) (some ⟨g,off,none⟩) n c (xs.set i v))) w'->wpList P ops Q rest (a.put o.dst undef) w') (hy:a.eval y=v:=by first|exact(rfl:_=Value.int _ _)|exact(rfl:_=Value.bool _)|exact(rfl:_=Value.slice _ _ _)|exact(rfl:_=Value.pointer _)|exact(rfl:_=Value.string _)|exact(rfl:_=Value.map _)|exact(rfl:_=Value.func _ _ _)|exact(rfl:_=Value.nilFunc)) (h1:v.oneCell'=true:=by rfl) (hi:(P.info? ty).map (·.size)=some 1:=by kernel_rfl) (hw:Region.wanted o (yielded ops a.tmps)=true:=by rfl):wpList P ops Q (o::rest) a w:=toL hw (soo k hs ho hx hk hy h1 hi hl h)
theorem Soq(k:Nat)(hs:St w0 X L w){ty:TypeId}{x y:Operand}(ho:o.op=.store ty x y){g i:Nat}(hx:a.eval x=.pointer (some ⟨g,i,none⟩)){t:TypeId}{l ys:List Value}(hk:L[k]? = some (.blk g t l)){v:Value}(hl:i<l.length)(hys:l.set i v=ys)
  (h:∀ w',St w0 X (L.set k (.blk g t ys)) w'->wpList P ops Q rest (a.put o.dst undef) w') (hy:a.eval y=v:=by first|exact(rfl:_=Value.int _ _)|exact(rfl:_=Value.bool _)|exact(rfl:_=Value.slice _ _ _)|exact(rfl:_=Value.pointer _)|exact(rfl:_=Value.string _)|exact(rfl:_=Value.map _)|exact(rfl:_=Value.func _ _ _)|exact(rfl:_=Value.nilFunc)) (h1:v.oneCell'=true:=by rfl) (hi:(P.info? ty).map (·.size)=some 1:=by kernel_rfl) (hw:Region.wanted o (yielded ops a.tmps)=true:=by rfl):wpList P ops Q (o::rest) a w:=toL hw (soq k hs ho hx hk hy h1 hi hl hys h)
end
end Se
namespace Ch
open Go Go.RowKit Hv Ch
section
variable {P:Program} {ops:Array Oper} {S:World->Prop} {N:Nat->Bool} {F:Act->World->Prop} {i:Nat} {rest:List Nat} {a:Act} {w:World} {o:Oper} {v:Value}
theorem pA(h:CW P ops S N F rest (a.put o.dst v) w)(ho:ops.toList[i]? = some o:=by rfl)(hN:N i=false:=by rfl)(hw:Region.wanted o (yielded ops a.tmps)=true:=by rfl)
  (hv:∀ w,S w->(execOp a.eval o).run P w=.ok (.value v) w:=by intro wx hS;go_simp;(first|done|with_reducible rfl)):CW P ops S N F (i::rest) a w:=pure ho hN hw hv h
theorem pE(ho:ops.toList[i]? = some o:=by rfl)(hN:N i=false:=by rfl)(hw:Region.wanted o (yielded ops a.tmps)=true:=by rfl)(hv:∀ w,S w->(execOp a.eval o).run P w=.ok (.value v) w)(h:CW P ops S N F rest (a.put o.dst v) w):CW P ops S N F (i::rest) a w:=pure ho hN hw hv h
theorem sK(h:CW P ops S N F rest (a.put o.dst undef) w)(ho:ops.toList[i]? = some o:=by rfl)(hw:Region.wanted o (yielded ops a.tmps)=false:=by rfl):CW P ops S N F (i::rest) a w:=skip ho hw h
theorem nA(ho:ops.toList[i]? = some o:=by rfl)(hN:N i=true:=by rfl)(hw:Region.wanted o (yielded ops a.tmps)=true:=by rfl)(h:Gives P o a w (fun v w'=>S w'/\CW P ops S N F rest (a.put o.dst v) w')):CW P ops S N F (i::rest) a w:=noise ho hN hw h
theorem cA{f:FuncId}{args:Array Value}{R:Ending->World->Prop}(hc:Calls P f args w R)(h:∀ e w',R e w'->∃ v,e=.returned v/\S w'/\CW P ops S N F rest (a.put o.dst v) w')(ho:ops.toList[i]? = some o:=by rfl)(hN:N i=true:=by rfl)(hw:Region.wanted o (yielded ops a.tmps)=true:=by rfl)(hx:(execOp a.eval o).run P w=.ok (.enter f args) w:=by go_simp):CW P ops S N F (i::rest) a w:=noise ho hN hw (Se.gcall hx (hc.mono h))
end
end Ch
namespace Hv
section
variable {P:Program} {ops:Array Oper} {S:World->Prop} {R:World->World->Prop} {N:Nat->Option Noisy} {D:Nat->List (List Nat)} {F:Act->World->Prop} {i:Nat} {rest:List Nat} {L:Facts} {a:Act} {o:Oper} {v:Value}
theorem pA(h:HW P ops S R N D F rest L (a.put o.dst v))(ho:ops.toList[i]? = some o:=by rfl)(hN:N i=none:=by rfl)(hw:Region.wanted o (yielded ops a.tmps)=true:=by rfl)
  (hv:∀ w,S w->(execOp a.eval o).run P w=.ok (.value v) w:=by intro wx hS;go_simp;(first|done|with_reducible rfl)):HW P ops S R N D F (i::rest) L a:=pure ho hN hw hv h
theorem pE(ho:ops.toList[i]? = some o:=by rfl)(hN:N i=none:=by rfl)(hw:Region.wanted o (yielded ops a.tmps)=true:=by rfl)(hv:∀ w,S w->(execOp a.eval o).run P w=.ok (.value v) w)(h:HW P ops S R N D F rest L (a.put o.dst v)):HW P ops S R N D F (i::rest) L a:=pure ho hN hw hv h
end
end Hv
namespace Or
open Go Go.RowKit Hv Ch
section
variable {P:Program} {ops:Array Oper} {S:World->Prop} {N:Nat->Bool} {F:Act->World->Prop} {n:Nat} {rest:List Nat} {a:Act} {w:World} {o:Oper} {v:Value}
theorem pA(q:Nat)(h:AW P ops S N F n (rest.erase q) (a.put o.dst v) w)(hq:rest.contains q=true:=by rfl)(hr:rdy ops rest q=true:=by decide +kernel)(hN:N q=false:=by rfl)(ho:ops.toList[q]? = some o:=by rfl)(hw:Region.wanted o (yielded ops a.tmps)=true:=by rfl)
  (hv:∀ w,S w->(execOp a.eval o).run P w=.ok (.value v) w:=by intro wx hS;go_simp;(first|done|with_reducible rfl)):AW P ops S N F (n+1) rest a w:=pure q hq hr hN ho hw hv h
theorem pE(q:Nat)(hq:rest.contains q=true:=by rfl)(hr:rdy ops rest q=true:=by decide +kernel)(hN:N q=false:=by rfl)(ho:ops.toList[q]? = some o:=by rfl)(hw:Region.wanted o (yielded ops a.tmps)=true:=by rfl)(hv:∀ w,S w->(execOp a.eval o).run P w=.ok (.value v) w)(h:AW P ops S N F n (rest.erase q) (a.put o.dst v) w):AW P ops S N F (n+1) rest a w:=pure q hq hr hN ho hw hv h
end
end Or
namespace Gd
open Go Go.RowKit Hv Ch
section
variable {P:Program} {ops:Array Oper} {S:World->Prop} {N:Nat->Bool} {K:Act->World->Prop} {i:Nat} {a:Act} {w:World} {o:Oper} {v:Value} {B:Bool} {d:Option Tmp} {op:Op} {ty:TypeId} {ps:String} {es:Array Edge} {gj:Nat × Bool} {c x y:Operand} {e:Bool}
theorem b0{b:BinOp}{t u:TypeId}(h:∀ c,Hid (c=e)->K (a.put d (.bool c)) w)(hN:N i=false:=by rfl)(hv:∀ w,S w->(execOp a.eval ⟨d,.binOp b t x y u,4,ps,es,none⟩).run P w=.ok (.value v) w:=by intro wx hS;go_simp;(first|done|with_reducible rfl))(he:v=.bool e:=by with_reducible rfl):CStep P ops S N i ⟨d,.binOp b t x y u,4,ps,es,none⟩ K a w:=qb hN rfl hv he h
theorem b1{b:BinOp}{t u:TypeId}(h:∀ c,Hid (c=e)->K (a.put d (mv B (.bool c))) w)(hN:N i=false:=by rfl)(hw:Region.wanted ⟨d,.binOp b t x y u,4,ps,es,some gj⟩ (yielded ops a.tmps)=B:=by first|exact Gd.want_t rfl rfl rfl|exact Gd.want_f rfl rfl rfl|exact Gd.want_mt rfl rfl rfl|exact Gd.want_mf rfl rfl rfl)(hv:B=true->∀ w,S w->(execOp a.eval ⟨d,.binOp b t x y u,4,ps,es,some gj⟩).run P w=.ok (.value v) w:=by intro hb;have hb0:=hb;(try simp only[Bool.and_eq_true] at hb);intro wx hS;go_simp;(first|done|with_reducible rfl))(he:v=.bool e:=by with_reducible rfl):CStep P ops S N i ⟨d,.binOp b t x y u,4,ps,es,some gj⟩ K a w:=gb hN hw hv he h
theorem p0{b:Bool}(h:∀ c,Hid (c=e)->K (a.put d (.bool c)) w)(hN:N i=false:=by rfl)(hc:a.eval c=.bool b:=by rfl)(hv:pk b (a.eval x) (a.eval y)=v:=by go_simp;(first|done|with_reducible rfl))(he:v=.bool e:=by with_reducible rfl):CStep P ops S N i ⟨d,.pick c x y,ty,ps,es,none⟩ K a w:=qpick rfl hN rfl hc hv he h
theorem a0(h:K (a.put d v) w)(hN:N i=false:=by rfl)(hv:∀ w,S w->(execOp a.eval ⟨d,op,ty,ps,es,none⟩).run P w=.ok (.value v) w:=by intro wx hS;go_simp;(first|done|with_reducible rfl)):CStep P ops S N i ⟨d,op,ty,ps,es,none⟩ K a w:=qp hN rfl hv h
theorem a1(h:K (a.put d (mv B v)) w)(hN:N i=false:=by rfl)(hw:Region.wanted ⟨d,op,ty,ps,es,some gj⟩ (yielded ops a.tmps)=B:=by first|exact Gd.want_t rfl rfl rfl|exact Gd.want_f rfl rfl rfl|exact Gd.want_mt rfl rfl rfl|exact Gd.want_mf rfl rfl rfl)(hv:B=true->∀ w,S w->(execOp a.eval ⟨d,op,ty,ps,es,some gj⟩).run P w=.ok (.value v) w:=by intro hb;have hb0:=hb;(try simp only[Bool.and_eq_true] at hb);intro wx hS;go_simp;(first|done|with_reducible rfl)):CStep P ops S N i ⟨d,op,ty,ps,es,some gj⟩ K a w:=gp hN hw hv h
theorem l1{t:TypeId}(hN:N i=false:=by rfl)(hw:Region.wanted ⟨d,.load t x,ty,ps,es,some gj⟩ (yielded ops a.tmps)=B:=by first|exact Gd.want_t rfl rfl rfl|exact Gd.want_f rfl rfl rfl|exact Gd.want_mt rfl rfl rfl|exact Gd.want_mf rfl rfl rfl)(hv:B=true->∀ w,S w->(execOp a.eval ⟨d,.load t x,ty,ps,es,some gj⟩).run P w=.ok (.value v) w)(h:K (a.put d (mv B v)) w):CStep P ops S N i ⟨d,.load t x,ty,ps,es,some gj⟩ K a w:=gp hN hw hv h
end
end Gd
end Go.Proofs.YtjnllcnknjlmmaaGreat
