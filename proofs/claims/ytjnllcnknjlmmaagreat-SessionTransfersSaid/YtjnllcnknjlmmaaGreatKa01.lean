/- Contracts and plain facts for the laws of layer 41. No condition. -/
import Derived.WalkKit
import Derived.WalkSpells
import Derived.WalkLawsBesides
import Derived.Lib.Hide
import Derived.Deep.Heap
import Derived.Laws.Rows
import Derived.Deep.MidRow
import Derived.StillTail
import Derived.OrdersHeld
import Derived.Below
import Derived.Deep.Draws
import Derived.Deep.QuietTactic
import Derived.Deep.OwnRows
import Derived.Laws.Append
import Derived.Deep.AppendSrc
import Derived.Deep.Upon
import Derived.ArgAppend
import Derived.Test.YtjnllcnknjlmmaaGreatProg
import Derived.Laws.BytesArg
set_option linter.unusedSimpArgs false
set_option linter.unusedVariables false
set_option maxRecDepth 100000
set_option maxHeartbeats 4000000
namespace Go.Proofs.YtjnllcnknjlmmaaGreat
open Go.RowKit
namespace Bv
theorem shl_nat(W:Nat)(a:Int)(n:Nat):(a*2 ^ min n W%((2 ^ W:Nat):Int)).toNat=(a%((2 ^ W:Nat):Int)).toNat*2 ^ n%2 ^ W:=by
 have hp:(0:Int)<((2 ^ W:Nat):Int):=by have:=Nat.two_pow_pos W;omega
 have h1:((a%((2 ^ W:Nat):Int)).toNat:Int)=a%((2 ^ W:Nat):Int):=Int.toNat_of_nonneg (Int.emod_nonneg _ (by omega))
 have key:a*2 ^ min n W%((2 ^ W:Nat):Int)=(((a%((2 ^ W:Nat):Int)).toNat*2 ^ n%2 ^ W:Nat):Int):=by
  rw[Int.natCast_emod,Int.natCast_mul,h1,Int.natCast_pow];rw[Int.mul_emod (a%_),Int.emod_emod,<-Int.mul_emod]
  by_cases hn:n<=W
  ·rw[Nat.min_eq_left hn];rfl
  ·have hn':W<=n:=by omega
   rw[Nat.min_eq_right hn']
   have e:n=W+(n-W):=by omega
   have z1:a*(2:Int) ^ W%((2 ^ W:Nat):Int)=0:=by
    rw[Int.natCast_pow];exact Int.mul_emod_left _ _
   have z2:a*((2:Nat):Int) ^ n%((2 ^ W:Nat):Int)=0:=by
    rw[e,Int.pow_add,Int.natCast_pow,<-Int.mul_assoc,Int.mul_right_comm];exact Int.mul_emod_left _ _
   rw[Int.natCast_pow] at z1 z2 ⊢;exact z1.trans z2.symm
 rw[key,Int.toNat_natCast]
theorem shr_nat(W x:Nat)(hx:x<2 ^ W)(n:Nat):(x:Int) / 2 ^ min n W=((x / 2 ^ n:Nat):Int):=by
 rw[Int.natCast_ediv,Int.natCast_pow]
 by_cases hn:n<=W
 ·rw[Nat.min_eq_left hn];rfl
 ·have hn':W<=n:=by omega
  rw[Nat.min_eq_right hn']
  have e1:(x:Int) / 2 ^ W=((x / 2 ^ W:Nat):Int):=by rw[Int.natCast_ediv,Int.natCast_pow];rfl
  have e2:(x:Int) / ((2:Nat):Int) ^ n=((x / 2 ^ n:Nat):Int):=by rw[Int.natCast_ediv,Int.natCast_pow]
  rw[e1,e2,Nat.div_eq_of_lt hx,Nat.div_eq_of_lt (Nat.lt_of_lt_of_le hx (Nat.pow_le_pow_right (by decide) hn'))]
def n8(x:BitVec 8):Int:=(x.toNat:Int)
theorem n8_lo(x:BitVec 8):0<=n8 x:=by unfold n8;omega
theorem n8_hi(x:BitVec 8):n8 x<256:=by have:=x.isLt;unfold n8;omega
theorem n8_inj{x y:BitVec 8}(h:n8 x=n8 y):x=y:=by
 unfold n8 at h;exact BitVec.eq_of_toNat_eq (by omega)
theorem of_n8(x:BitVec 8):BitVec.ofInt 8 (n8 x)=x:=by unfold n8;simp
theorem n8_of(a:Int):n8 (BitVec.ofInt 8 a)=a%256:=by unfold n8;rw[BitVec.toNat_ofInt];simp;omega
theorem wrap_n8_of(a:Int):IntKind.u8.wrap a=n8 (BitVec.ofInt 8 a):=by
 rw[n8_of];simp[IntKind.wrap,IntKind.bits,IntKind.signed]
theorem wrap_n8(x:BitVec 8):IntKind.u8.wrap (n8 x)=n8 x:=by rw[wrap_n8_of,of_n8]
theorem n8_eq_iff(x y:BitVec 8):(n8 x=n8 y)=(x=y):=propext ⟨n8_inj,fun h=>by rw[h]⟩
theorem n8_beq(x y:BitVec 8):(n8 x==n8 y)=(x==y):=by
 rw[Bool.eq_iff_iff];simp[n8_eq_iff]
theorem and_n8(a b:Int):Op.intBits .and .u8 a b=pure (.int .u8 (n8 (BitVec.ofInt 8 a&&&BitVec.ofInt 8 b))):=by
 show pure (Value.int .u8 (IntKind.u8.wrap _))=_
 rw[<-wrap_n8 (BitVec.ofInt 8 a&&&BitVec.ofInt 8 b)];rfl
theorem or_n8(a b:Int):Op.intBits .or .u8 a b=pure (.int .u8 (n8 (BitVec.ofInt 8 a|||BitVec.ofInt 8 b))):=by
 show pure (Value.int .u8 (IntKind.u8.wrap _))=_
 rw[<-wrap_n8 (BitVec.ofInt 8 a|||BitVec.ofInt 8 b)];rfl
theorem xor_n8(a b:Int):Op.intBits .xor .u8 a b=pure (.int .u8 (n8 (BitVec.ofInt 8 a^^^BitVec.ofInt 8 b))):=by
 show pure (Value.int .u8 (IntKind.u8.wrap _))=_
 rw[<-wrap_n8 (BitVec.ofInt 8 a^^^BitVec.ofInt 8 b)];rfl
def n16(x:BitVec 16):Int:=(x.toNat:Int)
theorem n16_inj{x y:BitVec 16}(h:n16 x=n16 y):x=y:=by
 unfold n16 at h;exact BitVec.eq_of_toNat_eq (by omega)
theorem n16_of(a:Int):n16 (BitVec.ofInt 16 a)=a%65536:=by unfold n16;rw[BitVec.toNat_ofInt];simp;omega
theorem wrap_n16_of(a:Int):IntKind.u16.wrap a=n16 (BitVec.ofInt 16 a):=by
 rw[n16_of];simp[IntKind.wrap,IntKind.bits,IntKind.signed]
theorem n16_eq_iff(x y:BitVec 16):(n16 x=n16 y)=(x=y):=propext ⟨n16_inj,fun h=>by rw[h]⟩
theorem n16_beq(x y:BitVec 16):(n16 x==n16 y)=(x==y):=by
 rw[Bool.eq_iff_iff];simp[n16_eq_iff]
def n32(x:BitVec 32):Int:=(x.toNat:Int)
theorem n32_inj{x y:BitVec 32}(h:n32 x=n32 y):x=y:=by
 unfold n32 at h;exact BitVec.eq_of_toNat_eq (by omega)
theorem of_n32(x:BitVec 32):BitVec.ofInt 32 (n32 x)=x:=by unfold n32;simp
theorem n32_of(a:Int):n32 (BitVec.ofInt 32 a)=a%4294967296:=by unfold n32;rw[BitVec.toNat_ofInt];simp;omega
theorem wrap_n32_of(a:Int):IntKind.u32.wrap a=n32 (BitVec.ofInt 32 a):=by
 rw[n32_of];simp[IntKind.wrap,IntKind.bits,IntKind.signed]
theorem wrap_n32(x:BitVec 32):IntKind.u32.wrap (n32 x)=n32 x:=by rw[wrap_n32_of,of_n32]
theorem n32_eq_iff(x y:BitVec 32):(n32 x=n32 y)=(x=y):=propext ⟨n32_inj,fun h=>by rw[h]⟩
theorem n32_beq(x y:BitVec 32):(n32 x==n32 y)=(x==y):=by
 rw[Bool.eq_iff_iff];simp[n32_eq_iff]
theorem and_n32(a b:Int):Op.intBits .and .u32 a b=pure (.int .u32 (n32 (BitVec.ofInt 32 a&&&BitVec.ofInt 32 b))):=by
 show pure (Value.int .u32 (IntKind.u32.wrap _))=_
 rw[<-wrap_n32 (BitVec.ofInt 32 a&&&BitVec.ofInt 32 b)];rfl
theorem or_n32(a b:Int):Op.intBits .or .u32 a b=pure (.int .u32 (n32 (BitVec.ofInt 32 a|||BitVec.ofInt 32 b))):=by
 show pure (Value.int .u32 (IntKind.u32.wrap _))=_
 rw[<-wrap_n32 (BitVec.ofInt 32 a|||BitVec.ofInt 32 b)];rfl
theorem xor_n32(a b:Int):Op.intBits .xor .u32 a b=pure (.int .u32 (n32 (BitVec.ofInt 32 a^^^BitVec.ofInt 32 b))):=by
 show pure (Value.int .u32 (IntKind.u32.wrap _))=_
 rw[<-wrap_n32 (BitVec.ofInt 32 a^^^BitVec.ofInt 32 b)];rfl
theorem mul_n32(a b:Int):Op.intArith .mul .u32 a b=pure (.int .u32 (n32 (BitVec.ofInt 32 a*BitVec.ofInt 32 b))):=by
 show pure (Value.int .u32 (IntKind.u32.wrap _))=_
 rw[wrap_n32_of,BitVec.ofInt_mul]
theorem shl_n32(a:Int)(yk:IntKind)(y:Int)(h:0<=y):Op.shift .shl .u32 a yk y=pure (.int .u32 (n32 (BitVec.ofInt 32 a <<< y.toNat))):=by
 rw[shift_shl_any _ _ _ _ h,wrap_n32_of]
 congr 3
 apply BitVec.eq_of_toNat_eq
 rw[BitVec.toNat_shiftLeft,BitVec.toNat_ofInt,BitVec.toNat_ofInt,Nat.shiftLeft_eq];exact shl_nat 32 a y.toNat
theorem shr_n32(x:BitVec 32)(yk:IntKind)(y:Int)(h:0<=y):Op.shift .shr .u32 (n32 x) yk y=pure (.int .u32 (n32 (x>>>y.toNat))):=by
 rw[shift_shr_any _ _ _ _ h]
 congr 3
 unfold n32;rw[BitVec.toNat_ushiftRight,Nat.shiftRight_eq_div_pow];exact shr_nat 32 x.toNat x.isLt y.toNat
theorem of32_n8(x:BitVec 8):BitVec.ofInt 32 (n8 x)=x.setWidth 32:=by
 unfold n8;apply BitVec.eq_of_toNat_eq;simp
theorem of32_n16(x:BitVec 16):BitVec.ofInt 32 (n16 x)=x.setWidth 32:=by
 unfold n16;apply BitVec.eq_of_toNat_eq;simp
theorem of8_n32(x:BitVec 32):BitVec.ofInt 8 (n32 x)=x.setWidth 8:=by
 unfold n32;apply BitVec.eq_of_toNat_eq;simp
end Bv
end Go.Proofs.YtjnllcnknjlmmaaGreat
namespace Go.Proofs.YtjnllcnknjlmmaaGreat
open Go.RowKit
namespace Li
theorem run_size{P:Program}{e n:Nat}(hi:(P.info? e).map (·.size)=some n)(w:World):(sizeOf e).run P w=.ok n w:=by
 cases h:P.info? e with
 | none=>simp[h] at hi
 | some i=>simp[h] at hi;simp[sizeOf,typeInfo,h,hi]
def Blk(w:World)(b:Nat)(l:List Value)(t:TypeId):Prop:=w.heap[b]? = some (.cells l.toArray t (0,0))
theorem Blk.cell{w:World}{b:Nat}{l:List Value}{t:TypeId}(h:Blk w b l t)(i:Nat):w.cell? ⟨b,i,none⟩=l[i]?:=by
 rw[cell_of_row w b i _ t _ h];simp
theorem Blk.frozen{w:World}{b:Nat}{l:List Value}{t:TypeId}(h:Blk w b l t)(i:Nat):w.frozen? ⟨b,i,none⟩=false:=frozen_of_row w b i _ t h
theorem Blk.lt{w:World}{b:Nat}{l:List Value}{t:TypeId}(h:Blk w b l t):b<w.heap.size:=by
 unfold Blk at h
 by_cases hb:b<w.heap.size
 ·exact hb
 ·rw[Array.getElem?_eq_none (by omega)] at h;cases h
theorem Blk.of_block{w w':World}{b:Nat}{l:List Value}{t:TypeId}(h:Blk w b l t)(e:w'.heap[b]? = w.heap[b]?):Blk w' b l t:=e.trans h
theorem Blk.new(w:World)(l:List Value)(t:TypeId):Blk (w.alloc (.cells l.toArray t)) w.heap.size l t:=heap_alloc_new w _
theorem Blk.set{w:World}{b:Nat}{l:List Value}{t:TypeId}(h:Blk w b l t)(i:Nat)(v:Value):Blk (w.setCell ⟨b,i,none⟩ v) b (l.set i v) t:=by
 unfold Blk;rw[heap_setCell_same w b i _ t v h];simp
theorem Blk.setCells:∀ (vs:List Value) (o:Nat) {w:World} {b:Nat} {l:List Value} {t:TypeId},Blk w b l t->o+vs.length<=l.length->Blk (w.setCells b o vs) b (l.take o++vs++l.drop (o+vs.length)) t
 | [],o,w,b,l,t,h,ho=>by
  simp only[World.setCells,List.append_nil,List.length_nil,Nat.add_zero,List.take_append_drop];exact h
 | v::r,o,w,b,l,t,h,ho=>by
  simp only[World.setCells,List.length_cons] at *
  have:=Blk.setCells r (o+1) (h.set o v) (by simp;omega)
  rw[List.take_succ_eq_append_getElem (by simp;omega),List.drop_set_of_lt (by omega)] at this;simp only[List.take_set_of_le (Nat.le_refl o),List.getElem_set_self,List.append_assoc,List.cons_append,List.nil_append] at this;simpa [Nat.add_assoc,Nat.add_comm 1] using this
theorem Blk.setAll{w:World}{b:Nat}{l vs:List Value}{t:TypeId}(h:Blk w b l t)(hl:vs.length=l.length):Blk (w.setCells b 0 vs) b vs t:=by
 have:=Blk.setCells vs 0 h (by omega)
 simpa [hl] using this
theorem heap_setCells_other:∀ (vs:List Value) (o:Nat) (w:World) (b k:Nat),k≠b->(w.setCells b o vs).heap[k]? = w.heap[k]?
 | [],_,_,_,_,_=>rfl
 | v::r,o,w,b,k,h=>by rw[World.setCells,heap_setCells_other r _ _ b k h,heap_setCell_other _ _ _ _ h]
theorem size_setCells:∀ (vs:List Value) (o:Nat) (w:World) (b:Nat),(w.setCells b o vs).heap.size=w.heap.size
 | [],_,_,_=>rfl
 | v::r,o,w,b=>by rw[World.setCells,size_setCells r];simp[World.setCell]
theorem below_setCells{B:Nat}{a:World}:∀ (vs:List Value) (o:Nat) (w:World) (b:Nat),Below B a w->B<=b->Below B a (w.setCells b o vs)
 | [],_,_,_,h,_=>h
 | _::r,_,_,b,h,hb=>below_setCells r _ _ b (h.setCell hb _) hb
section
variable {P:Program}
theorem wpList_load_blk{ops:Array Oper}{rest:List Oper}{o:Oper}{a:Act}{w:World}{Q:Exit->Act->World->Prop}(hgd:o.guard=none)(ty:TypeId)(x:Operand)(ho:o.op=.load ty x)
  (g:Nat) (hx:a.eval x=.pointer (some ⟨g,0,none⟩)) {t:TypeId} {l:List Value} {d:TypeDesc} (hg:Blk w g l t)
  (hu:P.underlying ty=some d) (hd:(match d with | .struct _ | .array _ _=>true|_=>false)=true) (hi:(P.info? ty).map (·.size)=some l.length)
  (h:wpList P ops Q rest (a.put o.dst (.agg l.toArray)) w):wpList P ops Q (o::rest) a w :=
 wpList_load_row hgd ty x ho g hx t l.toArray (0,0) d hg hu hd (by simpa using hi) h
theorem bodyPost_blk{fn:Func}{R:Ending->World->Prop}{a:Act}{w:World}{p:Tmp}{ty:TypeId}{g:Nat}{l:List Value}{t:TypeId}{d:TypeDesc}(hr:fn.results=#[.cell p ty])
  (hp:a.tmps.getD p undef=.pointer (some ⟨g,0,none⟩)) (hg:Blk w g l t) (hu:P.underlying ty=some d) (hd:(match d with | .struct _ | .array _ _=>true|_=>false)=true)
  (hi:(P.info? ty).map (·.size)=some l.length) (hdf:a.defers=[]) (hR:R (.returned (.agg l.toArray)) w):bodyPost P fn R .ret a w :=
 bodyPost_ret (results_cell_row hr _ w g t l.toArray (0,0) d hp hg hu hd (by simpa using hi)) hdf hR
end
end Li
end Go.Proofs.YtjnllcnknjlmmaaGreat
namespace Go.Proofs.YtjnllcnknjlmmaaGreat
namespace Hv
open Go Go.RowKit
structure Noisy where
 vv:Value->Prop
 ww:Value->World->Prop
def Gives(P:Program)(o:Oper)(a:Act)(w:World)(G:Value->World->Prop):Prop :=
 match (execOp a.eval o).run P w with
 | .ok (.value v) w'=>G v w'
 | .ok .skip w'=>G undef w'
 | .ok (.enter f args) w'=>Calls P f args w' fun e w''=>∃ v,e=.returned v/\G v w''
 | _=>False
def Usable(D:Nat->List (List Nat))(j i:Nat):Prop:=∃ p∈D j,p.head? = some i
abbrev Facts:=List (Nat × (World->Prop))
section
variable (P:Program) (ops:Array Oper) (S:World->Prop) (R:World->World->Prop) (N:Nat->Option Noisy) (D:Nat->List (List Nat)) (F:Act->World->Prop)
def Step(i:Nat)(o:Oper)(K:Facts->Act->Prop)(L:Facts)(a:Act):Prop :=
 match N i with
 | none=>∃ v,YieldsIf P ops S o v a/\K L (a.put o.dst v)
 | some n=>(Region.wanted o (yielded ops a.tmps)=false/\K L (a.put o.dst undef)) \/
   (Region.wanted o (yielded ops a.tmps)=true/\(∃ v,n.vv v) /\
    (∀ w,S w->(∀ p∈L,Usable D i p.1->p.2 w)->Gives P o a w (fun v w'=>S w'/\R w w'/\n.vv v/\n.ww v w')) /\
    ∀ v,n.vv v->K ((i,n.ww v)::L) (a.put o.dst v))
def HW:List Nat->Facts->Act->Prop
 | [],L,a=>∀ w,S w->(∀ p∈L,p.2 w)->F a w
 | i::rest,L,a=>∃ o,ops[i]? = some o/\Step P ops S R N D i o (HW rest) L a
end
section
variable {P:Program} {ops:Array Oper} {S:World->Prop} {R:World->World->Prop} {N:Nat->Option Noisy} {D:Nat->List (List Nat)} {F:Act->World->Prop}
theorem Gives.mono{o:Oper}{a:Act}{w:World}{G G':Value->World->Prop}(hg:∀ v w',G v w'->G' v w')(h:Gives P o a w G):Gives P o a w G':=by
 unfold Gives at *
 generalize (execOp a.eval o).run P w=r at *
 cases r with
 | ok n w' =>
  cases n <;> simp only at h ⊢
  case value v=>exact hg _ _ h
  case skip=>exact hg _ _ h
  case enter f args=>exact h.mono fun e w'' ⟨v,he,hv⟩=>⟨v,he,hg _ _ hv⟩
 | halt x w'=>exact h
theorem Gives.put{o:Oper}{a:Act}{w:World}{G:Value->World->Prop}{d:Option Tmp}{u:Value}(hs:∀ cs b,o.op≠.select cs b)(hd:∀ t,d=some t->t∉o.looksAt ops) :
  Gives P o (a.put d u) w G↔Gives P o a w G:=by
 unfold Gives;rw[execOp_put o hs a d u hd]
theorem Gives.wp{o:Oper}{a:Act}{w:World}{G:Value->World->Prop}{K:Act->World->Prop}{Q:Exit->Act->World->Prop}(h:Gives P o a w G)(hk:∀ v w',G v w'->K (a.put o.dst v) w'):o.wp P a w K Q:=by
 unfold Gives at h;unfold Oper.wp;generalize (execOp a.eval o).run P w=r at *
 cases r with
 | ok n w' =>
  cases n <;> simp only at h
  case value v=>exact hk _ _ h
  case skip=>exact hk _ _ h
  case enter f args =>
   exact h.mono fun e w'' ⟨v,he,hv⟩=>by subst he;exact hk _ _ hv
 | halt x w'=>exact h.elim
theorem YieldsIf.same{o:Oper}{v u:Value}{a:Act}{w:World}(h:YieldsIf P ops S o v a)(k:YieldsIf P ops S o u a)(hS:S w):v=u:=by
 rcases h with ⟨h1,h2⟩|⟨h1,rfl⟩ <;> rcases k with ⟨k1,k2⟩|⟨k1,rfl⟩
 ·have:=(h2 w hS).symm.trans (k2 w hS)
  simpa using this
 ·rw[h1] at k1;cases k1
 ·rw[h1] at k1;cases k1
 ·rfl
theorem YieldsIf.putIff{o:Oper}{v:Value}{a:Act}{d:Option Tmp}{u:Value}(hs:∀ cs b,o.op≠.select cs b)(hd:∀ t,d=some t->t∉o.looksAt ops) :
  YieldsIf P ops S o v (a.put d u)↔YieldsIf P ops S o v a :=
 ⟨fun h=>h.of_same (execOp_put o hs a d u hd).symm (wanted_put o a d u hd).symm,fun h=>h.of_same (execOp_put o hs a d u hd) (wanted_put o a d u hd)⟩
theorem Step.mono{i:Nat}{o:Oper}{K K':Facts->Act->Prop}{L L':Facts}{a:Act}(hL:∀ p∈L,p∈L')
  (hk:∀ M M' a',(∀ p∈M,p∈M')->K M a'->K' M' a') (h:Step P ops S R N D i o K L a):Step P ops S R N D i o K' L' a:=by
 unfold Step at *
 split
 ·rename_i hn;simp only[hn] at h
  obtain⟨v,h1,h2⟩:=h
  exact⟨v,h1,hk _ _ _ hL h2⟩
 ·rename_i n hn;simp only[hn] at h
  rcases h with ⟨h1,h2⟩|⟨h1,h2,h3,h4⟩
  ·exact .inl ⟨h1,hk _ _ _ hL h2⟩
  ·refine .inr ⟨h1,h2,fun w hS hf=>h3 w hS (fun p hp hu=>hf p (hL p hp) hu),fun v hv=>hk _ _ _ ?_ (h4 v hv)⟩
   intro p hp
   rcases List.mem_cons.1 hp with rfl|hp
   ·exact List.mem_cons_self
   ·exact List.mem_cons_of_mem _ (hL p hp)
theorem HW.mono:∀ (rest:List Nat) {L L':Facts} {a:Act},(∀ p∈L,p∈L')->HW P ops S R N D F rest L a->HW P ops S R N D F rest L' a
 | [],_,_,_,hL,h=>fun w hS hf=>h w hS (fun p hp=>hf p (hL p hp))
 | _::rest,_,_,_,hL,⟨o,ho,h⟩=>⟨o,ho,h.mono hL (fun _ _ _ hM hK=>HW.mono rest hM hK)⟩
theorem Step.pull{i j:Nat}{oi oj:Oper}{K:Facts->Act->Prop}{L:Facts}{a:Act}{w0:World}(hS0:S w0)
  (hsi:∀ cs b,oi.op≠.select cs b) (hsj:∀ cs b,oj.op≠.select cs b) (hap:oi.apart ops oj=true) (hu:¬ Usable D j i)
  (hK:∀ M M' a',(∀ p∈M,p∈M')->K M a'->K M' a')
  (h:Step P ops S R N D i oi (fun M b=>Step P ops S R N D j oj K M b) L a) :
  Step P ops S R N D j oj (fun M b=>Step P ops S R N D i oi K M b) L a:=by
 obtain⟨h1,h2,h3⟩:=Oper.apart_spec hap
 have comm:∀ (b:Act) (u v:Value),(b.put oi.dst u).put oj.dst v=(b.put oj.dst v).put oi.dst u:=fun b u v=>Act.put_comm b u v h2
 have wi:∀ (b:Act) (v:Value),Region.wanted oi (yielded ops (b.put oj.dst v).tmps)=Region.wanted oi (yielded ops b.tmps):=fun b v=>wanted_put oi b oj.dst v h3
 have wj:∀ (b:Act) (v:Value),Region.wanted oj (yielded ops (b.put oi.dst v).tmps)=Region.wanted oj (yielded ops b.tmps):=fun b v=>wanted_put oj b oi.dst v h1
 unfold Step at *
 cases hni:N i with
 | none =>
  simp only[hni] at h ⊢
  obtain⟨vi,hyi,h⟩:=h
  cases hnj:N j with
  | none =>
   simp only[hnj] at h ⊢
   obtain⟨vj,hyj,h⟩:=h
   exact⟨vj,(YieldsIf.putIff hsj h1).1 hyj,vi,(YieldsIf.putIff hsi h3).2 hyi,by rw[<-comm];exact h⟩
  | some nj =>
   simp only[hnj] at h ⊢
   rcases h with ⟨hw,h⟩|⟨hw,he,hg,h⟩
   ·exact .inl ⟨by rw[<-wj a vi];exact hw,vi,(YieldsIf.putIff hsi h3).2 hyi,by rw[<-comm];exact h⟩
   ·exact .inr ⟨by rw[<-wj a vi];exact hw,he,fun w hS hf=>(Gives.put hsj h1).1 (hg w hS hf),fun vj hvj=>⟨vi,(YieldsIf.putIff hsi h3).2 hyi,by rw[<-comm];exact h vj hvj⟩⟩
 | some ni =>
  simp only[hni] at h ⊢
  rcases h with ⟨hwi,h⟩|⟨hwi,hei,hgi,h⟩
  ·cases hnj:N j with
   | none =>
    simp only[hnj] at h ⊢
    obtain⟨vj,hyj,h⟩:=h
    exact⟨vj,(YieldsIf.putIff hsj h1).1 hyj,.inl ⟨by rw[wi];exact hwi,by rw[<-comm];exact h⟩⟩
   | some nj =>
    simp only[hnj] at h ⊢
    rcases h with ⟨hw,h⟩|⟨hw,he,hg,h⟩
    ·exact .inl ⟨by rw[<-wj a undef];exact hw,.inl ⟨by rw[wi];exact hwi,by rw[<-comm];exact h⟩⟩
    ·exact .inr ⟨by rw[<-wj a undef];exact hw,he,fun w hS hf=>(Gives.put hsj h1).1 (hg w hS hf),fun vj hvj=>.inl ⟨by rw[wi];exact hwi,by rw[<-comm];exact h vj hvj⟩⟩
  ·obtain⟨v0,hv0⟩:=hei
   cases hnj:N j with
   | none =>
    simp only[hnj] at h ⊢
    obtain⟨vj,hyj,_⟩:=h v0 hv0
    have hyj':=(YieldsIf.putIff (ops:=ops) hsj h1).1 hyj
    refine⟨vj,hyj',.inr ⟨by rw[wi];exact hwi,⟨v0,hv0⟩,fun w hS hf=>(Gives.put hsi h3).2 (hgi w hS hf),fun vi hvi=>?_⟩⟩
    obtain⟨vj',hy',h'⟩:=h vi hvi
    have:=YieldsIf.same ((YieldsIf.putIff (ops:=ops) hsj h1).1 hy') hyj' hS0
    subst this;rw[<-comm];exact h'
   | some nj =>
    simp only[hnj] at h ⊢
    rcases h v0 hv0 with ⟨hw,_⟩|⟨hw,he,hg,_⟩
    ·have hw':Region.wanted oj (yielded ops a.tmps)=false:=by rw[<-wj a v0];exact hw
     refine .inl ⟨hw',.inr ⟨by rw[wi];exact hwi,⟨v0,hv0⟩,fun w hS hf=>(Gives.put hsi h3).2 (hgi w hS hf),fun vi hvi=>?_⟩⟩
     rcases h vi hvi with ⟨_,h'⟩|⟨k,_⟩
     ·rw[<-comm];exact h'
     ·rw[wj,hw'] at k;cases k
    ·have hw':Region.wanted oj (yielded ops a.tmps)=true:=by rw[<-wj a v0];exact hw
     refine .inr ⟨hw',he,fun w hS hf=>(Gives.put hsj h1).1 (hg w hS (fun p hp hu'=>?_)),fun vj hvj=>.inr ⟨by rw[wi];exact hwi,⟨v0,hv0⟩,fun w hS hf=>(Gives.put hsi h3).2 (hgi w hS (fun p hp hu'=>hf p (List.mem_cons_of_mem _ hp) hu')),fun vi hvi=>?_⟩⟩
     ·rcases List.mem_cons.1 hp with rfl|hp
      ·exact absurd hu' hu
      ·exact hf p hp hu'
     ·rcases h vi hvi with ⟨k,_⟩|⟨_,_,_,h'⟩
      ·rw[wj,hw'] at k;cases k
      ·rw[<-comm]
       refine hK _ _ _ ?_ (h' vj hvj);intro p hp;simp only[List.mem_cons] at hp ⊢
       rcases hp with rfl|rfl|hp
       ·exact .inr (.inl rfl)
       ·exact .inl rfl
       ·exact .inr (.inr hp)
theorem HW.pull{w0:World}(hS0:S w0)(hsel:∀ (j:Nat) (o:Oper) cs b,ops[j]? = some o->o.op≠.select cs b){j:Nat}{oj:Oper}(hj:ops[j]? = some oj) :
  ∀ (rest:List Nat) {L:Facts} {a:Act},j∈rest->(∀ i∈rest,i<j->∀ oi,ops[i]? = some oi->oi.apart ops oj=true)->(∀ i∈rest,i≠j->¬ Usable D j i)->rest.Pairwise (· < ·) ->
   HW P ops S R N D F rest L a->Step P ops S R N D j oj (HW P ops S R N D F (rest.erase j)) L a
 | [],_,_,hm,_,_,_,_=>by cases hm
 | i::rest,L,a,hm,hap,hu,hp,⟨oi,hoi,h⟩=>by
  by_cases hij:i=j
  ·subst hij
   have:oi=oj:=Option.some.inj (hoi.symm.trans hj)
   subst this;rw[List.erase_cons_head];exact h
  ·have hm':j∈rest:=by
    rcases List.mem_cons.1 hm with rfl|hm
    ·exact absurd rfl hij
    ·exact hm
   have hlt:i<j:=(List.pairwise_cons.1 hp).1 j hm'
   rw[List.erase_cons_tail (by simpa using hij)]
   have h1:Step P ops S R N D i oi (fun M b=>Step P ops S R N D j oj (HW P ops S R N D F (rest.erase j)) M b) L a :=
    h.mono (fun _ hp=>hp) (fun M M' a' hM hK=>HW.pull hS0 hsel hj rest hm' (fun k hk=>hap k (List.mem_cons_of_mem _ hk)) (fun k hk=>hu k (List.mem_cons_of_mem _ hk)) (List.pairwise_cons.1 hp).2 (HW.mono rest hM hK))
   have h2:=Step.pull (K:=HW P ops S R N D F (rest.erase j)) hS0 (hsel i oi · · hoi) (hsel j oj · · hj) (hap i List.mem_cons_self hlt oi hoi) (hu i List.mem_cons_self hij) (fun _ _ _ hM hK=>HW.mono _ hM hK) h1
   exact h2.mono (fun _ hp=>hp) (fun M M' a' hM hK=>⟨oi,hoi,hK.mono hM (fun _ _ _ hM hK=>HW.mono _ hM hK)⟩)
def pathB(ops:Array Oper):List Nat->Bool
 | i::j::rest=>Region.waitsFor .any ops j i&&pathB ops (j::rest)
 | _=>true
def checkB(ops:Array Oper)(n:Nat)(D:Nat->List (List Nat)):Bool :=
 Region.noSelect ops&&decide (n<=ops.size)&&(decide (n=ops.size) || (Region.sinkB .any ops n&&Region.chainB .any ops n))&&Region.lexHead .any ops (ops.size-n) n 0 (Array.replicate ops.size false) &&
  (List.range n).all fun j=>(D j).all fun p=>pathB ops p&&(p.getLast? == some j)&&decide (2<=p.length)
def canon:Nat->Nat->Array Bool->Array Bool
 | 0,_,l=>l
 | f+1,k,l=>canon f (k+1) (l.setIfInBounds k true)
theorem canon_size:∀ (f k:Nat) (l:Array Bool),(canon f k l).size=l.size
 | 0,_,_=>rfl
 | f+1,k,l=>by rw[canon,canon_size f];simp
theorem canon_get:∀ (f k:Nat) (l:Array Bool) (j:Nat),(canon f k l).getD j true=if k<=j/\j<k+f then true else l.getD j true
 | 0,k,l,j=>by rw[canon,if_neg (by omega)]
 | f+1,k,l,j=>by
  rw[canon,canon_get f]
  by_cases h1:k+1<=j/\j<k+1+f
  ·rw[if_pos h1,if_pos (by omega)]
  ·rw[if_neg h1]
   by_cases hj:k=j
   ·subst hj
    rw[if_pos (by omega)]
    rcases Nat.lt_or_ge k l.size with h|h
    ·simp[h]
    ·simp[h]
   ·rw[getD_set_ne true hj,if_neg (by omega)]
theorem lexHead_end{g:Nat}:∀ (f k:Nat) (l:Array Bool),Region.lexHead .any ops g f k l=true->Region.seqB .any ops g (k+f) (canon f k l)=true
 | 0,_,_,h=>h
 | f+1,k,l,h=>by
  simp only[Region.lexHead,Bool.and_eq_true] at h;rw[canon,show k+(f+1)=k+1+f by omega];exact lexHead_end f (k+1) _ h.2
theorem lexHead_free{g:Nat}:∀ (f k:Nat) (l:Array Bool),Region.lexHead .any ops g f k l=true->∀ i,k<=i->i<k+f->Region.free .any ops (canon (i-k) k l) i=true
 | 0,_,_,_,_,h1,h2=>by omega
 | f+1,k,l,h,i,h1,h2=>by
  simp only[Region.lexHead,Bool.and_eq_true] at h
  by_cases hi:i=k
  ·subst hi;rw[Nat.sub_self];exact h.1.2
  ·have:=lexHead_free f (k+1) _ h.2 i (by omega) (by omega)
   rw[show i-k=(i-(k+1))+1 by omega,canon];exact this
theorem lexHead_ready{g:Nat}:∀ (f k:Nat) (l:Array Bool),Region.lexHead .any ops g f k l=true->∀ i,k<=i->i<k+f->i∈Region.ready .any ops (canon (i-k) k l)
 | 0,_,_,_,_,h1,h2=>by omega
 | f+1,k,l,h,i,h1,h2=>by
  simp only[Region.lexHead,Bool.and_eq_true] at h
  by_cases hi:i=k
  ·subst hi;rw[Nat.sub_self,canon];simpa using h.1.1
  ·have:=lexHead_ready f (k+1) _ h.2 i (by omega) (by omega)
   rw[show i-k=(i-(k+1))+1 by omega,canon];exact this
theorem path_ready{n:Nat}{listed:Array Bool}(inv:HeadInv .any ops n listed){p:List Nat}{i j:Nat}(hp:pathB ops p=true)(h1:p.head? = some i)(h2:p.getLast? = some j)(h3:2<=p.length)
  (hr:j∈Region.ready .any ops listed):listed.getD i false=true:=by
 obtain⟨_,oj,hoj,hall⟩:=mem_ready.1 hr
 -- the last step but one is listed
 have key:∀ (q:List Nat) (i:Nat),pathB ops q=true->q.head? = some i->q.getLast? = some j->2<=q.length->listed.getD i false=true:=by
  intro q
  induction q with
  | nil=>intro i _ h;simp at h
  | cons x q ih =>
   intro i hp h1 h2 h3
   match q,ih,hp,h1,h2,h3 with
   | [],_,_,_,_,h3=>simp at h3
   | [y],_,hp,h1,h2,_ =>
    simp at h1 h2;subst h1 h2;simp only[pathB,Bool.and_eq_true] at hp
    obtain⟨oy,hoy,e,he,hb,hon⟩:=Region.waitsFor_spec hp.1
    have:oy=oj:=Option.some.inj (hoy.symm.trans hoj)
    subst this
    have:=hall e he hb
    rw[hon] at this;exact this
   | y::z::q,ih,hp,h1,h2,_ =>
    simp at h1;subst h1;simp only[pathB,Bool.and_eq_true] at hp
    have hy:=ih y (by simp only[pathB,Bool.and_eq_true];exact hp.2) rfl (by simpa using h2) (by simp)
    obtain⟨oy,hoy,e,he,hb,hon⟩:=Region.waitsFor_spec hp.1
    have:=inv.closed y oy hoy hy e he hb
    rw[hon] at this;exact this
 exact key p i hp h1 h2 h3
theorem sound{Q:Exit->Act->World->Prop}{n:Nat}(hB:checkB ops n D=true)(hst:∀ i m,N i=some m->∀ v w w',R w w'->m.ww v w->m.ww v w')
  (hF:∀ listed a w,Region.seqB .any ops (ops.size-n) n listed=true->F a w->wpAny P .any ops Q (ops.size-n) listed a w) :
  ∀ (m:Nat) (rest:List Nat) (L:Facts) (a:Act) (w:World) (listed:Array Bool),rest.length=m->HeadInv .any ops n listed->(∀ j,j∈rest↔j<n/\listed.getD j true=false)->rest.Pairwise (· < ·) ->
   (∀ p∈L,∀ v w',R v w'->p.2 v->p.2 w')->HW P ops S R N D F rest L a->S w->(∀ p∈L,p.2 w)->wpAny P .any ops Q (m+(ops.size-n)) listed a w:=by
 simp only[checkB,Bool.and_eq_true,decide_eq_true_eq,Bool.or_eq_true] at hB
 obtain⟨⟨⟨⟨hsel,hn⟩,hsc⟩,hlex⟩,hD⟩:=hB
 intro m
 induction m with
 | zero =>
  intro rest L a w listed hlen inv hrest hpw _ hW hS hL
  have:rest=[]:=List.eq_nil_of_length_eq_zero hlen
  subst this;rw[Nat.zero_add];refine hF _ _ _ ?_ (hW w hS hL)
  have:=lexHead_end (ops:=ops) n 0 _ hlex
  rw[Nat.zero_add] at this
  have e:listed=canon n 0 (Array.replicate ops.size false):=by
   apply Array.ext
   ·rw[inv.size,canon_size];simp
   ·intro j h1 h2
    have g1:listed.getD j true=listed[j]:=by simp[h1]
    have g2:(canon n 0 (Array.replicate ops.size false)).getD j true=(canon n 0 (Array.replicate ops.size false))[j]:=by simp[h2]
    rw[<-g1,<-g2,canon_get]
    have hjs:j<ops.size:=by rw[<-inv.size];exact h1
    by_cases hj:j<n
    ·rw[if_pos (by omega)]
     cases h:listed.getD j true with
     | true=>rfl
     | false=>exact absurd ((hrest j).2 ⟨hj,h⟩) (by simp)
    ·rw[if_neg (by omega)]
     rw[inv.tail j (by omega) hjs];simp[hjs]
  rw[e];exact this
 | succ m ih =>
  intro rest L a w listed hlen inv hrest hpw hLst hW hS hL
  have hmem:∃ i,i∈rest:=by
   match rest,hlen with
   | i::_,_=>exact⟨i,List.mem_cons_self⟩
  have hready:∀ j,j∈Region.ready .any ops listed->j<n:=by
   intro j hj
   obtain⟨i,hi⟩:=hmem
   have hi':=(hrest i).1 hi
   rcases Nat.lt_or_ge j n with h|h
   ·exact h
   ·obtain⟨_,oj,hoj,_⟩:=mem_ready.1 hj
    have hjs:j<ops.size:=(Array.getElem?_eq_some_iff.1 hoj).1
    rcases hsc with h0|⟨hs,hc⟩
    ·omega
    ·exact absurd hj (tail_waits hs hc (by omega) inv _ i rfl hi'.1 hi'.2 j h)
  rw[show m+1+(ops.size-n)=(m+(ops.size-n))+1 by omega];refine⟨fun h0=>?_,fun j hj=>?_⟩
  ·-- the first that is not listed is ready
   exfalso
   obtain⟨i,hi⟩:=hmem
   match rest,hrest,hpw with
   | k::rest',hrest,hpw =>
    have hk:=(hrest k).1 List.mem_cons_self
    have hall:∀ j,j<k->listed.getD j true=true:=by
     intro j hjk
     cases h:listed.getD j true with
     | true=>rfl
     | false =>
      have:=(hrest j).2 ⟨by omega,h⟩
      rcases List.mem_cons.1 this with rfl|h'
      ·omega
      ·have:=(List.pairwise_cons.1 hpw).1 j h'
       omega
    have hkr:k∈Region.ready .any ops listed:=by
     have:=lexHead_ready n 0 _ hlex k (by omega) (by omega)
     rw[mem_ready] at this ⊢
     obtain⟨_,ok,hok,hafter⟩:=this
     refine⟨hk.2,ok,hok,fun e he hb=>?_⟩
     have h1:=hafter e he hb
     have hks:k<ops.size:=(Array.getElem?_eq_some_iff.1 hok).1
     have hlt:e.on<k:=by
      rcases Nat.lt_or_ge e.on k with h|h
      ·exact h
      ·exfalso
       have h2:=canon_get (k-0) 0 (Array.replicate ops.size false) e.on
       rw[if_neg (by omega)] at h2
       rcases Nat.lt_or_ge e.on ops.size with h3|h3
       ·have h4:(Array.replicate ops.size false).getD e.on true=false:=by simp[h3]
        rw[h4] at h2;rw[getD_both h2] at h1;cases h1
       ·have:(canon (k-0) 0 (Array.replicate ops.size false)).getD e.on false=false:=by
         rw[Array.getD_eq_getD_getElem?,Array.getElem?_eq_none (by rw[canon_size];simpa using h3)];rfl
        rw[this] at h1;cases h1
     have h5:=hall e.on hlt
     have:e.on<listed.size:=by rw[inv.size];omega
     simp[this] at h5 ⊢;exact h5
    rw[h0] at hkr;cases hkr
  ·have hjn:=hready j hj
   obtain⟨hjun,oj,hoj,hjall⟩:=mem_ready.1 hj
   have hjrest:j∈rest:=(hrest j).2 ⟨hjn,hjun⟩
   have hnw:∀ i∈rest,∀ e∈oj.after,Region.binds .any e=true->e.on≠i:=by
    intro i hi e he hb heq
    have h1:=hjall e he hb
    rw[heq,getD_both ((hrest i).1 hi).2] at h1
    cases h1
   have hap:∀ i∈rest,i<j->∀ oi,ops[i]? = some oi->oi.apart ops oj=true:=by
    intro i hi hij oi hoi
    have hf:=lexHead_free n 0 _ hlex i (Nat.zero_le _) (by have:=(hrest i).1 hi;omega)
    have hjs:j<ops.size:=(Array.getElem?_eq_some_iff.1 hoj).1
    refine Region.free_spec hoi hf j oj hoj (by omega) ?_ (hnw i hi);rw[canon_get,if_neg (by omega)];simp[hjs]
   have hus:∀ i∈rest,i≠j->¬ Usable D j i:=by
    rintro i hi _⟨p,hp,hh⟩
    have h1:=List.all_eq_true.1 (List.all_eq_true.1 hD j (List.mem_range.2 hjn)) p hp
    simp only[Bool.and_eq_true,beq_iff_eq,decide_eq_true_eq] at h1
    have:=path_ready inv h1.1.1 hh h1.1.2 h1.2 hj
    rw[getD_both ((hrest i).1 hi).2] at this;cases this
   have hstep:=HW.pull (w0:=w) hS (Region.noSelect_spec hsel) hoj rest hjrest hap hus hpw hW
   have hlen':(rest.erase j).length=m:=by rw[List.length_erase_of_mem hjrest];omega
   have hnd:rest.Nodup:=hpw.imp (fun h=>Nat.ne_of_lt h)
   have hrest':∀ k,k∈rest.erase j↔k<n/\(listed.setIfInBounds j true).getD k true=false:=by
    intro k;rw[hnd.mem_erase_iff,hrest k]
    by_cases hkj:k=j
    ·subst hkj
     have hks:k<listed.size:=by rw[inv.size];exact(Array.getElem?_eq_some_iff.1 hoj).1
     simp[hks]
    ·rw[getD_set_ne true (fun h=>hkj h.symm)]
     simp[hkj]
   have hpw':(rest.erase j).Pairwise (· < ·):=hpw.sublist List.erase_sublist
   have inv':=inv.set hj hjn
   unfold Step at hstep
   cases hnj:N j with
   | none =>
    simp only[hnj] at hstep
    obtain⟨v,hy,hW'⟩:=hstep
    exact hy.wpOp hoj hS (ih _ _ _ _ _ hlen' inv' hrest' hpw' hLst hW' hS hL)
   | some nj =>
    simp only[hnj] at hstep
    rcases hstep with ⟨hw,hW'⟩|⟨hw,_,hg,hW'⟩
    ·unfold wpOp
     simp only[hoj,hw,Bool.false_eq_true,if_false];exact ih _ _ _ _ _ hlen' inv' hrest' hpw' hLst hW' hS hL
    ·unfold wpOp
     simp only[hoj,hw,if_true];refine .inl ((hg w hS (fun p hp _=>hL p hp)).wp (fun v w' ⟨hS',hR,hv,hww⟩=>?_));refine ih _ _ _ _ _ hlen' inv' hrest' hpw' ?_ (hW' v hv) hS' ?_
     ·intro p hp
      rcases List.mem_cons.1 hp with rfl|hp
      ·exact fun v1 w1 h=>hst j nj hnj v v1 w1 h
      ·exact hLst p hp
     ·intro p hp
      rcases List.mem_cons.1 hp with rfl|hp
      ·exact hww
      ·exact hLst p hp w w' hR (hL p hp)
theorem region{id:Nat}{Q:Exit->Act->World->Prop}{a:Act}{w:World}{l:List Oper}(n:Nat)(S:World->Prop)(R:World->World->Prop)(N:Nat->Option Noisy)(D:Nat->List (List Nat))
  (hm:P.follows .mixedOrders=true) (hB:checkB l.toArray n D=true) (hst:∀ i m,N i=some m->∀ v w w',R w w'->m.ww v w->m.ww v w') (hS:S w.drew)
  (h:HW P l.toArray S R N D (fun a' w'=>wpList P l.toArray Q (l.drop n) a' w') (List.range n) [] a):(Code.region id l.toArray true).wp P Q a w:=by
 have hB':=hB
 simp only[checkB,Bool.and_eq_true,decide_eq_true_eq] at hB'
 have hn:=hB'.1.1.1.2
 refine wp_region_any hm ?_
 have inv0:HeadInv .any l.toArray n (Array.replicate l.toArray.size false) :=
  ⟨by simp,fun j oj _ hl=>(by rw[getD_replicate_false] at hl;cases hl),fun t _ ht=>getD_in (by simpa using ht) (getD_replicate_false _ _)⟩
 have hdl:(l.drop n).length=l.toArray.size-n:=by simp
 have:=sound (Q:=Q) hB hst (fun listed a' w' hq hF=>by
  have:=wpAny_of_seq (md:=.any) (Q':=Q) (l.drop n) n listed a' w' (fun j=>by simp[List.getElem?_drop]) (by rw[hdl];exact hq) hF
  rwa [hdl] at this) n (List.range n) [] a w.drew (Array.replicate l.toArray.size false) (by simp) inv0
  (fun j=>by
   rw[List.mem_range]
   constructor
   ·intro hj;refine⟨hj,?_⟩
    have:j<l.toArray.size:=by omega
    simp at this;simp[this]
   ·exact fun h=>h.1)
  List.pairwise_lt_range (fun p hp=>by cases hp) h hS (fun p hp=>by cases hp)
 rw[show n+(l.toArray.size-n)=l.toArray.size by omega] at this;exact this
theorem pure{i:Nat}{rest:List Nat}{L:Facts}{a:Act}{o:Oper}{v:Value}(ho:ops.toList[i]? = some o)(hN:N i=none)(hw:Region.wanted o (yielded ops a.tmps)=true)
  (hv:∀ w,S w->(execOp a.eval o).run P w=.ok (.value v) w) (h:HW P ops S R N D F rest L (a.put o.dst v)):HW P ops S R N D F (i::rest) L a :=
 ⟨o,by simpa using ho,by unfold Step;simp only[hN];exact⟨v,.inl ⟨hw,hv⟩,h⟩⟩
theorem noisy{i:Nat}{rest:List Nat}{L:Facts}{a:Act}{o:Oper}{m:Noisy}(ho:ops.toList[i]? = some o)(hN:N i=some m)(hw:Region.wanted o (yielded ops a.tmps)=true)(hv:∃ v,m.vv v)
  (hg:∀ w,S w->(∀ p∈L,Usable D i p.1->p.2 w)->Gives P o a w (fun v w'=>S w'/\R w w'/\m.vv v/\m.ww v w'))
  (h:∀ v,m.vv v->HW P ops S R N D F rest ((i,m.ww v)::L) (a.put o.dst v)):HW P ops S R N D F (i::rest) L a :=
 ⟨o,by simpa using ho,by unfold Step;simp only[hN];exact .inr ⟨hw,hv,hg,h⟩⟩
def con(c:Value):Noisy:=⟨fun v=>v=c,fun _ _=>True⟩
theorem con_ex(c:Value):∃ v,(con c).vv v:=⟨c,rfl⟩
def row(l:List Value)(t:TypeId):Noisy :=
 ⟨fun v=>∃ b,v=.slice (some ⟨b,0,none⟩) l.length l.length,fun v w=>∀ b n c,v=.slice (some ⟨b,0,none⟩) n c->w.heap[b]? = some (.cells l.toArray t (0,0))⟩
theorem row_ex(l:List Value)(t:TypeId):∃ v,(row l t).vv v:=⟨_,0,rfl⟩
def Ext(w w':World):Prop:=Below w.heap.size w w'
theorem con_st{c v:Value}{w w':World}(_:Ext w w')(h:(con c).ww v w):(con c).ww v w':=h
theorem row_st{l:List Value}{t:TypeId}{v:Value}{w w':World}(h:Ext w w')(h':(row l t).ww v w):(row l t).ww v w':=fun b n c hv=>by
 have h1:=h' b n c hv
 have hlt:b<w.heap.size:=(Array.getElem?_eq_some_iff.1 h1).1
 exact(h.block b hlt).trans h1
theorem done{L:Facts}{a:Act}(h:∀ w,S w->(∀ p∈L,p.2 w)->F a w):HW P ops S R N D F [] L a:=h
theorem Ext.trans{a b c:World}(h:Ext a b)(k:Ext b c):Ext a c:=Below.trans h (Below.mono k h.size)
theorem Ext.alloc(w:World)(o:Obj):Ext w (w.alloc o):=(Below.refl _ _).alloc (Nat.le_refl _) _
theorem Ext.drew(w:World):Ext w w.drew:=(Below.refl _ _).drew
theorem Ext.drewN(w:World)(n:Nat):Ext w (w.drewN n):=⟨rfl,rfl,rfl,Nat.le_refl _,fun _ _=>rfl⟩
theorem grow{id:Nat}{Q:Exit->Act->World->Prop}{a:Act}{w:World}{l:List Oper}(n:Nat)(N:Nat->Option Noisy)(D:Nat->List (List Nat))
  (hm:P.follows .mixedOrders=true) (hB:checkB l.toArray n D=true) (hst:∀ i m,N i=some m->∀ v w w',Ext w w'->m.ww v w->m.ww v w')
  (h:HW P l.toArray (Ext w) Ext N D (fun a' w'=>wpList P l.toArray Q (l.drop n) a' w') (List.range n) [] a):(Code.region id l.toArray true).wp P Q a w :=
 region n (Ext w) Ext N D hm hB hst (Ext.drew w) h
theorem noise{w0:World}{i:Nat}{rest:List Nat}{L:Facts}{a:Act}{o:Oper}{m:Noisy}(ho:ops.toList[i]? = some o)(hN:N i=some m)(hw:Region.wanted o (yielded ops a.tmps)=true)(hv:∃ v,m.vv v)
  (hg:∀ w,Ext w0 w->(∀ p∈L,Usable D i p.1->p.2 w)->Gives P o a w (fun v w'=>Ext w w'/\m.vv v/\m.ww v w'))
  (h:∀ v,m.vv v->HW P ops (Ext w0) Ext N D F rest ((i,m.ww v)::L) (a.put o.dst v)):HW P ops (Ext w0) Ext N D F (i::rest) L a :=
 noisy ho hN hw hv (fun w hS hf=>(hg w hS hf).mono fun _ _ ⟨h1,h2,h3⟩=>⟨hS.trans h1,h1,h2,h3⟩) h
theorem row_new(w:World)(l:List Value)(t:TypeId):Ext w (w.alloc (.cells l.toArray t))/\(row l t).vv (.slice (some ⟨w.heap.size,0,none⟩) l.length l.length)/\(row l t).ww (.slice (some ⟨w.heap.size,0,none⟩) l.length l.length) (w.alloc (.cells l.toArray t)) :=
 ⟨Ext.alloc _ _,⟨_,rfl⟩,fun b n c h=>by
  simp only[Value.slice.injEq,Option.some.injEq,Addr.mk.injEq] at h
  obtain⟨⟨rfl,_⟩,_⟩:=h
  show(w.heap.push _)[w.heap.size]? = _
  simp⟩
end
end Hv
end Go.Proofs.YtjnllcnknjlmmaaGreat
namespace Go.Proofs.YtjnllcnknjlmmaaGreat
open Go.RowKit
namespace Li
def rowOf(z:Value)(n:Nat)(l:List Value):List Value:=l++List.replicate (n-l.length) z
theorem rowOf_length(z:Value)(n:Nat)(l:List Value)(h:l.length<=n):(rowOf z n l).length=n:=by simp[rowOf];omega
theorem rowOf_full(z:Value)(n:Nat)(l:List Value)(h:l.length=n):rowOf z n l=l:=by simp[rowOf,h]
theorem rowOf_set(z:Value)(n:Nat)(l:List Value)(h:l.length<n)(x:Value):(rowOf z n l).set l.length x=rowOf z n (l++[x]):=by
 unfold rowOf
 have e:n-l.length=(n-(l++[x]).length)+1:=by simp;omega
 rw[e,List.replicate_succ,List.set_append_right _ _ (by simp)];simp
end Li
end Go.Proofs.YtjnllcnknjlmmaaGreat
namespace Go.Proofs.YtjnllcnknjlmmaaGreat
open Go Go.RowKit
namespace Hv
end Hv
namespace Li
end Li
end Go.Proofs.YtjnllcnknjlmmaaGreat
namespace Go.Proofs.YtjnllcnknjlmmaaGreat
open Go.RowKit
namespace Li
end Li
end Go.Proofs.YtjnllcnknjlmmaaGreat
namespace Go.Proofs.YtjnllcnknjlmmaaGreat
open Go Go.RowKit
namespace Li
def Rd(w:World)(A:Option Addr)(xs:List Value):Prop:=xs=[]\/∃ g off,A=some ⟨g,off,none⟩/\∀ i,i<xs.length->w.cell? ⟨g,off+i,none⟩=xs[i]?
def Os(w:World)(t:TypeId)(r:Option Nat)(A:Option Addr)(c:Nat)(xs:List Value):Prop :=
 (c=0/\xs=[]/\r=none)\/∃ g off l,A=some ⟨g,off,none⟩/\r=some g/\Blk w g l t/\off+c<=l.length/\xs.length<=c/\c<=maxLen/\(l.drop off).take xs.length=xs
theorem Rd.grow{w w':World}{A:Option Addr}{xs:List Value}(h:Rd w A xs)(hb:Below w.heap.size w w'):Rd w' A xs:=by
 rcases h with rfl|⟨g,off,rfl,h⟩
 ·exact .inl rfl
 ·refine .inr ⟨g,off,rfl,fun i hi=>(hb.cell (p:=⟨g,off+i,none⟩) ?_).trans (h i hi)⟩
  have:=h i hi
  rw[List.getElem?_eq_getElem hi] at this;exact World.block_lt_of_cell? _ _ this
theorem Rd.of_blk{w:World}{g:Nat}{l:List Value}{t:TypeId}(h:Blk w g l t):Rd w (some ⟨g,0,none⟩) l:=.inr ⟨g,0,rfl,fun i _=>by rw[Nat.zero_add];exact h.cell i⟩
theorem Rd.take{w:World}{A:Option Addr}{xs:List Value}(h:Rd w A xs)(k:Nat):Rd w A (xs.take k):=by
 rcases h with rfl|⟨g,off,rfl,h⟩
 ·exact .inl (by simp)
 ·refine .inr ⟨g,off,rfl,fun i hi=>?_⟩
  rw[List.length_take] at hi;rw[h i (by omega),List.getElem?_take_of_lt (by omega)]
theorem Rd.cells{w:World}{A:Option Addr}{xs:List Value}(h:Rd w A xs)(hx:xs≠[]):∃ g off,A=some ⟨g,off,none⟩/\g<w.heap.size/\∀ i,i<xs.length->w.cell? ⟨g,off+i,none⟩=xs[i]?:=by
 rcases h with rfl|⟨g,off,rfl,h⟩
 ·exact absurd rfl hx
 ·have h0:0<xs.length:=List.length_pos_iff.2 hx
  refine⟨g,off,rfl,?_,h⟩
  have:=h 0 h0
  rw[List.getElem?_eq_getElem h0] at this;exact World.block_lt_of_cell? _ _ this
theorem Os.of_block{w w':World}{t:TypeId}{r:Option Nat}{A:Option Addr}{c:Nat}{xs:List Value}(h:Os w t r A c xs)(e:∀ g,r=some g->w'.heap[g]? = w.heap[g]?):Os w' t r A c xs:=by
 rcases h with h|⟨g,off,l,rfl,rfl,hb,hl,hc,hm,hx⟩
 ·exact .inl h
 ·exact .inr ⟨g,off,l,rfl,rfl,hb.of_block (e g rfl),hl,hc,hm,hx⟩
end Li
end Go.Proofs.YtjnllcnknjlmmaaGreat
namespace Go.Proofs.YtjnllcnknjlmmaaGreat
open Go Go.RowKit
namespace Li
theorem grown_below{w w':World}{B:Nat}{r:Option Nat}(h:w.grownBy w' r)(hB:B<=w.heap.size)(hr:∀ g,r=some g->B<=g):Below B w w' :=
 ⟨h.os,h.tape,h.output,h.size,fun k hk=>h.block k (by omega) (fun e=>by have:=hr k e.symm;omega)⟩
abbrev v8(b:BitVec 8):Value:=.int .u8 (Bv.n8 b)
theorem v8_one(bs:List (BitVec 8)):∀ v∈bs.map v8,v.oneCell'=true:=by
 intro v hv;obtain⟨b,_,rfl⟩:=List.mem_map.1 hv;rfl
def str(bs:List (BitVec 8)):ByteArray:=strOfNums (bs.map Bv.n8)
theorem run_str{P:Program}{src e dst:TypeId}(hs:P.underlying src=some (.slice e))(he:P.underlying e=some (.int .u8))(hd:P.underlying dst=some .string){A:Option Addr}{n c:Nat}{bs:List (BitVec 8)}{w:World}(h:Rd w A (bs.map v8))(hn:n=bs.length) :
  (convert src dst (.slice A n c)).run P w=.ok (.string (str bs)) w:=by
 subst hn
 by_cases hb:bs=[]
 ·subst hb
  rw[run_convert_bytes_string w src dst e _ _ _ hs he hd]
  cases A with
  | none=>simp[Conv.bytesToString,str,strOfNums];rfl
  | some a =>
   rw[List.length_nil,run_bytesToString w a 0 c [] (by simp[loadCells,loadCellsFrom])];simp[str,strOfNums];rfl
 ·obtain⟨g,off,rfl,_,hc⟩:=h.cells (by simpa using hb)
  refine run_convert_bytes_arg w src e hs he g off bs.length c (bs.map Bv.n8) (by simp) (fun i hi=>?_) dst hd;rw[hc i (by simpa using hi)];simp[hi]
end Li
end Go.Proofs.YtjnllcnknjlmmaaGreat
namespace Go.Proofs.YtjnllcnknjlmmaaGreat
open Go Go.RowKit
namespace Li
section
variable {P:Program}
theorem Blk.there{w:World}{g:Nat}{t:TypeId}{l:List Value}(h:Blk w g l t){o n:Nat}(ho:o+n<=l.length):w.there g o n:=fun j hj =>
 ⟨by rw[h.cell];simp[show o+j<l.length by omega],h.frozen _⟩
end
end Li
namespace Hv
end Hv
end Go.Proofs.YtjnllcnknjlmmaaGreat
namespace Go.Proofs.YtjnllcnknjlmmaaGreat
open Go Go.RowKit
namespace Li
structure Fr (X:Nat->Prop) (w w':World):Prop where
 os:w'.os=w.os
 tape:w'.tape=w.tape
 output:w'.output=w.output
 size:w.heap.size<=w'.heap.size
 block:∀ b,b<w.heap.size->¬ X b->w'.heap[b]? = w.heap[b]?
theorem Fr.refl(X:Nat->Prop)(w:World):Fr X w w:=⟨rfl,rfl,rfl,Nat.le_refl _,fun _ _ _=>rfl⟩
theorem Fr.trans{X Y:Nat->Prop}{w w1 w2:World}(h:Fr X w w1)(k:Fr Y w1 w2)(hY:∀ b,b<w.heap.size->Y b->X b):Fr X w w2 :=
 ⟨k.os.trans h.os,k.tape.trans h.tape,k.output.trans h.output,Nat.le_trans h.size k.size,fun b hb hx=>(k.block b (Nat.lt_of_lt_of_le hb h.size) (fun hy=>hx (hY b hb hy))).trans (h.block b hb hx)⟩
theorem Fr.mono{X Y:Nat->Prop}{w w1:World}(h:Fr X w w1)(hY:∀ b,b<w.heap.size->X b->Y b):Fr Y w w1:=⟨h.os,h.tape,h.output,h.size,fun b hb hy=>h.block b hb (fun hx=>hy (hY b hb hx))⟩
theorem Fr.grown{w w':World}{r:Option Nat}{X:Nat->Prop}(h:w.grownBy w' r)(hr:∀ g,r=some g->X g):Fr X w w' :=
 ⟨h.os,h.tape,h.output,h.size,fun b hb hx=>h.block b hb (fun e=>hx (hr b e.symm))⟩
theorem Fr.ext{X:Nat->Prop}{w w':World}(h:Below w.heap.size w w'):Fr X w w':=⟨h.os,h.tape,h.output,h.size,fun b hb _=>h.block b hb⟩
theorem Fr.setCells{X:Nat->Prop}{w w':World}{g:Nat}(h:Fr X w w')(hX:X g)(o:Nat)(vs:List Value):Fr X w (w'.setCells g o vs) :=
 ⟨(below_setCells vs o w' g (Below.refl 0 w') (Nat.zero_le _)).os.trans h.os,(below_setCells vs o w' g (Below.refl 0 w') (Nat.zero_le _)).tape.trans h.tape,(below_setCells vs o w' g (Below.refl 0 w') (Nat.zero_le _)).output.trans h.output,
  by rw[size_setCells];exact h.size,fun k hk hne=>(heap_setCells_other vs o w' g k (fun e=>hne (by rw[e];exact hX))).trans (h.block k hk hne)⟩
theorem Fr.setCell{X:Nat->Prop}{w w':World}{g:Nat}(h:Fr X w w')(hX:X g)(o:Nat)(v:Value):Fr X w (w'.setCell ⟨g,o,none⟩ v):=h.setCells hX o [v]
theorem Fr.below{X:Nat->Prop}{w w':World}{B:Nat}(h:Fr X w w')(hB:B<=w.heap.size)(hX:∀ b,X b->B<=b):Below B w w' :=
 ⟨h.os,h.tape,h.output,h.size,fun b hb=>h.block b (by omega) (fun hx=>by have:=hX b hx;omega)⟩
theorem Blk.fr{X:Nat->Prop}{w w':World}{g:Nat}{l:List Value}{t:TypeId}(h:Blk w g l t)(k:Fr X w w')(hg:¬ X g):Blk w' g l t:=h.of_block (k.block g h.lt hg)
theorem Rd.fr{X:Nat->Prop}{w w':World}{A:Option Addr}{xs:List Value}(h:Rd w A xs)(k:Fr X w w')(hA:∀ a,A=some a->xs≠[]->¬ X a.block):Rd w' A xs:=by
 by_cases hx:xs=[]
 ·exact .inl hx
 obtain⟨g,off,rfl,hl,hc⟩:=h.cells hx
 exact .inr ⟨g,off,rfl,fun i hi=>(World.cell?_of_block (a:=(⟨g,off+i,none⟩:Addr)) (k.block g hl (hA ⟨g,off,none⟩ rfl hx))).trans (hc i hi)⟩
theorem add_zero(a:Addr):a.add 0=a:=by unfold Addr.add;split <;> simp_all
end Li
end Go.Proofs.YtjnllcnknjlmmaaGreat
namespace Go.Proofs.YtjnllcnknjlmmaaGreat
namespace Ch
open Go Go.RowKit Hv
section
variable (P:Program) (ops:Array Oper) (S:World->Prop) (N:Nat->Bool) (F:Act->World->Prop)
def CStep(i:Nat)(o:Oper)(K:Act->World->Prop)(a:Act)(w:World):Prop :=
 match N i with
 | false=>∃ v,YieldsIf P ops S o v a/\K (a.put o.dst v) w
 | true=>(Region.wanted o (yielded ops a.tmps)=false/\K (a.put o.dst undef) w) \/
   (Region.wanted o (yielded ops a.tmps)=true/\Gives P o a w (fun v w'=>S w'/\K (a.put o.dst v) w'))
def CW:List Nat->Act->World->Prop
 | [],a,w=>F a w
 | i::rest,a,w=>∃ o,ops[i]? = some o/\CStep P ops S N i o (CW rest) a w
end
section
variable {P:Program} {ops:Array Oper} {S:World->Prop} {N:Nat->Bool} {F:Act->World->Prop}
theorem gives_some{o:Oper}{a:Act}{w:World}{G:Value->World->Prop}(h:Gives P o a w G):∃ v w',G v w':=by
 unfold Gives at h;generalize (execOp a.eval o).run P w=r at *
 cases r with
 | ok n w' =>
  cases n <;> simp only at h
  case value v=>exact⟨_,_,h⟩
  case skip=>exact⟨_,_,h⟩
  case enter f args =>
   obtain⟨e,w',fr,⟨v,_,hg⟩,_⟩:=h []
   exact⟨v,w',hg⟩
 | halt x w'=>exact h.elim
theorem CStep.mono{i:Nat}{o:Oper}{K K':Act->World->Prop}{a:Act}{w:World}(hS:S w)(hk:∀ a' w',S w'->K a' w'->K' a' w')(h:CStep P ops S N i o K a w):CStep P ops S N i o K' a w:=by
 unfold CStep at *
 split
 ·rename_i hn;simp only[hn] at h
  obtain⟨v,h1,h2⟩:=h
  exact⟨v,h1,hk _ _ hS h2⟩
 ·rename_i hn;simp only[hn] at h
  rcases h with ⟨h1,h2⟩|⟨h1,h2⟩
  ·exact .inl ⟨h1,hk _ _ hS h2⟩
  ·exact .inr ⟨h1,h2.mono fun v w' ⟨h3,h4⟩=>⟨h3,hk _ _ h3 h4⟩⟩
theorem CStep.pull{i j:Nat}{oi oj:Oper}{K:Act->World->Prop}{a:Act}{w:World}(hS:S w)(hsi:∀ cs b,oi.op≠.select cs b)(hsj:∀ cs b,oj.op≠.select cs b)(hap:oi.apart ops oj=true)(hu:¬ (N i=true/\N j=true))
  (h:CStep P ops S N i oi (fun b w'=>CStep P ops S N j oj K b w') a w):CStep P ops S N j oj (fun b w'=>CStep P ops S N i oi K b w') a w:=by
 obtain⟨h1,h2,h3⟩:=Oper.apart_spec hap
 have comm:∀ (b:Act) (u v:Value),(b.put oi.dst u).put oj.dst v=(b.put oj.dst v).put oi.dst u:=fun b u v=>Act.put_comm b u v h2
 have wi:∀ (b:Act) (v:Value),Region.wanted oi (yielded ops (b.put oj.dst v).tmps)=Region.wanted oi (yielded ops b.tmps):=fun b v=>wanted_put oi b oj.dst v h3
 have wj:∀ (b:Act) (v:Value),Region.wanted oj (yielded ops (b.put oi.dst v).tmps)=Region.wanted oj (yielded ops b.tmps):=fun b v=>wanted_put oj b oi.dst v h1
 unfold CStep at *
 cases hni:N i with
 | false =>
  simp only[hni] at h ⊢
  obtain⟨vi,hyi,h⟩:=h
  cases hnj:N j with
  | false =>
   simp only[hnj] at h ⊢
   obtain⟨vj,hyj,h⟩:=h
   exact⟨vj,(YieldsIf.putIff hsj h1).1 hyj,vi,(YieldsIf.putIff hsi h3).2 hyi,by rw[<-comm];exact h⟩
  | true =>
   simp only[hnj] at h ⊢
   rcases h with ⟨hw,h⟩|⟨hw,h⟩
   ·exact .inl ⟨by rw[<-wj a vi];exact hw,vi,(YieldsIf.putIff hsi h3).2 hyi,by rw[<-comm];exact h⟩
   ·refine .inr ⟨by rw[<-wj a vi];exact hw,((Gives.put hsj h1).1 h).mono fun v w' ⟨h4,h5⟩=>⟨h4,vi,(YieldsIf.putIff hsi h3).2 hyi,by rw[<-comm];exact h5⟩⟩
 | true =>
  simp only[hni] at h ⊢
  cases hnj:N j with
  | true=>exact absurd ⟨hni,hnj⟩ hu
  | false =>
   simp only[hnj] at h ⊢
   rcases h with ⟨hwi,vj,hyj,h⟩|⟨hwi,h⟩
   ·exact⟨vj,(YieldsIf.putIff hsj h1).1 hyj,.inl ⟨by rw[wi];exact hwi,by rw[<-comm];exact h⟩⟩
   ·obtain⟨v0,w1,hS1,vj,hyj,_⟩:=gives_some h
    have hyj':=(YieldsIf.putIff (ops:=ops) hsj h1).1 hyj
    refine⟨vj,hyj',.inr ⟨by rw[wi];exact hwi,(Gives.put hsi h3).2 (h.mono fun v w' ⟨h4,vj',hy',h5⟩=>⟨h4,?_⟩)⟩⟩
    have:=YieldsIf.same ((YieldsIf.putIff (ops:=ops) hsj h1).1 hy') hyj' hS
    subst this;rw[<-comm];exact h5
theorem CW.pull(hsel:∀ (j:Nat) (o:Oper) cs b,ops[j]? = some o->o.op≠.select cs b){j:Nat}{oj:Oper}(hj:ops[j]? = some oj) :
  ∀ (rest:List Nat) {a:Act} {w:World},S w->j∈rest->(∀ i∈rest,i<j->∀ oi,ops[i]? = some oi->oi.apart ops oj=true)->(∀ i∈rest,i<j->¬ (N i=true/\N j=true))->rest.Pairwise (· < ·) ->
   CW P ops S N F rest a w->CStep P ops S N j oj (CW P ops S N F (rest.erase j)) a w
 | [],_,_,_,hm,_,_,_,_=>by cases hm
 | i::rest,a,w,hS,hm,hap,hu,hp,⟨oi,hoi,h⟩=>by
  by_cases hij:i=j
  ·subst hij
   have:oi=oj:=Option.some.inj (hoi.symm.trans hj)
   subst this;rw[List.erase_cons_head];exact h
  ·have hm':j∈rest:=by
    rcases List.mem_cons.1 hm with rfl|hm
    ·exact absurd rfl hij
    ·exact hm
   have hlt:i<j:=(List.pairwise_cons.1 hp).1 j hm'
   rw[List.erase_cons_tail (by simpa using hij)]
   have h1:CStep P ops S N i oi (fun b w'=>CStep P ops S N j oj (CW P ops S N F (rest.erase j)) b w') a w :=
    h.mono hS (fun a' w' hS' hK=>CW.pull hsel hj rest hS' hm' (fun k hk=>hap k (List.mem_cons_of_mem _ hk)) (fun k hk=>hu k (List.mem_cons_of_mem _ hk)) (List.pairwise_cons.1 hp).2 hK)
   have h2:=CStep.pull (K:=CW P ops S N F (rest.erase j)) hS (hsel i oi · · hoi) (hsel j oj · · hj) (hap i List.mem_cons_self hlt oi hoi) (hu i List.mem_cons_self hlt) h1
   exact h2.mono hS (fun a' w' _ hK=>⟨oi,hoi,hK⟩)
theorem pathB_tail{x:Nat}{p:List Nat}(h:pathB ops (x::p)=true):pathB ops p=true:=by
 cases p with
 | nil=>rfl
 | cons y p=>simp only[pathB,Bool.and_eq_true] at h;exact h.2
theorem pathB_right:∀ (p q:List Nat),pathB ops (p++q)=true->pathB ops q=true
 | [],_,h=>h
 | _::p,q,h=>pathB_right p q (pathB_tail h)
theorem pathB_left:∀ (p q:List Nat),pathB ops (p++q)=true->pathB ops p=true
 | [],_,_=>rfl
 | [_],_,_=>rfl
 | x::y::p,q,h=>by
  simp only[List.cons_append,pathB,Bool.and_eq_true] at h ⊢;exact⟨h.1,pathB_left (y::p) q h.2⟩
def checkC(ops:Array Oper)(n:Nat)(N:Nat->Bool)(C:List Nat):Bool :=
 Region.noSelect ops&&decide (n<=ops.size)&&(decide (n=ops.size) || (Region.sinkB .any ops n&&Region.chainB .any ops n))&&Region.lexHead .any ops (ops.size-n) n 0 (Array.replicate ops.size false) &&
  pathB ops C&&(C.zip (C.drop 1)).all (fun p=>decide (p.1<p.2))&&(List.range n).all fun j => !N j || C.contains j
theorem inc_of_zip:∀ (C:List Nat),(C.zip (C.drop 1)).all (fun p=>decide (p.1<p.2))=true->C.Pairwise (· < ·)
 | [],_=>List.Pairwise.nil
 | [x],_=>by simp
 | x::y::r,h=>by
  simp only[List.drop_succ_cons,List.drop_zero,List.zip_cons_cons,List.all_cons,Bool.and_eq_true,decide_eq_true_eq] at h
  have ih:=inc_of_zip (y::r) (by simpa using h.2)
  refine List.pairwise_cons.2 ⟨fun z hz=>?_,ih⟩
  rcases List.mem_cons.1 hz with rfl|hz
  ·exact h.1
  ·have:=(List.pairwise_cons.1 ih).1 z hz;omega
theorem chain_ready{n:Nat}{listed:Array Bool}{C:List Nat}(inv:HeadInv .any ops n listed)(hp:pathB ops C=true)(hC:C.Pairwise (· < ·)){i j:Nat}(hi:i∈C)(hj:j∈C)(hij:i<j)(hr:j∈Region.ready .any ops listed):listed.getD i false=true:=by
 obtain⟨p1,p2,rfl⟩:=List.append_of_mem hj
 have hi1:i∈p1:=by
  rcases List.mem_append.1 hi with h|h
  ·exact h
  ·rcases List.mem_cons.1 h with rfl|h
   ·omega
   ·have:=(List.pairwise_append.1 hC).2.1
    have:=(List.pairwise_cons.1 this).1 i h
    omega
 obtain⟨q1,q2,rfl⟩:=List.append_of_mem hi1
 have h1:pathB ops (q1++(i::(q2++[j])))=true:=by
  refine pathB_left _ p2 ?_;simpa using hp
 have h2:=pathB_right q1 _ h1
 exact path_ready inv h2 rfl (by simp[List.getLast?_cons,List.getLast?_append]) (by simp) hr
theorem soundC{Q:Exit->Act->World->Prop}{n:Nat}{C:List Nat}(hB:checkC ops n N C=true)
  (hF:∀ listed a w,Region.seqB .any ops (ops.size-n) n listed=true->F a w->wpAny P .any ops Q (ops.size-n) listed a w) :
  ∀ (m:Nat) (rest:List Nat) (a:Act) (w:World) (listed:Array Bool),rest.length=m->HeadInv .any ops n listed->(∀ j,j∈rest↔j<n/\listed.getD j true=false)->rest.Pairwise (· < ·) ->
   CW P ops S N F rest a w->S w->wpAny P .any ops Q (m+(ops.size-n)) listed a w:=by
 simp only[checkC,Bool.and_eq_true,decide_eq_true_eq,Bool.or_eq_true] at hB
 obtain⟨⟨⟨⟨⟨⟨hsel,hn⟩,hsc⟩,hlex⟩,hC1⟩,hC2⟩,hC3⟩:=hB
 have hC2':=inc_of_zip C hC2
 intro m
 induction m with
 | zero =>
  intro rest a w listed hlen inv hrest hpw hW hS
  have:rest=[]:=List.eq_nil_of_length_eq_zero hlen
  subst this;rw[Nat.zero_add];refine hF _ _ _ ?_ hW
  have:=lexHead_end (ops:=ops) n 0 _ hlex
  rw[Nat.zero_add] at this
  have e:listed=canon n 0 (Array.replicate ops.size false):=by
   apply Array.ext
   ·rw[inv.size,canon_size];simp
   ·intro j h1 h2
    have g1:listed.getD j true=listed[j]:=by simp[h1]
    have g2:(canon n 0 (Array.replicate ops.size false)).getD j true=(canon n 0 (Array.replicate ops.size false))[j]:=by simp[h2]
    rw[<-g1,<-g2,canon_get]
    have hjs:j<ops.size:=by rw[<-inv.size];exact h1
    by_cases hj:j<n
    ·rw[if_pos (by omega)]
     cases h:listed.getD j true with
     | true=>rfl
     | false=>exact absurd ((hrest j).2 ⟨hj,h⟩) (by simp)
    ·rw[if_neg (by omega)]
     rw[inv.tail j (by omega) hjs];simp[hjs]
  rw[e];exact this
 | succ m ih =>
  intro rest a w listed hlen inv hrest hpw hW hS
  have hmem:∃ i,i∈rest:=by
   match rest,hlen with
   | i::_,_=>exact⟨i,List.mem_cons_self⟩
  have hready:∀ j,j∈Region.ready .any ops listed->j<n:=by
   intro j hj
   obtain⟨i,hi⟩:=hmem
   have hi':=(hrest i).1 hi
   rcases Nat.lt_or_ge j n with h|h
   ·exact h
   ·obtain⟨_,oj,hoj,_⟩:=mem_ready.1 hj
    have hjs:j<ops.size:=(Array.getElem?_eq_some_iff.1 hoj).1
    rcases hsc with h0|⟨hs,hc⟩
    ·omega
    ·exact absurd hj (tail_waits hs hc (by omega) inv _ i rfl hi'.1 hi'.2 j h)
  rw[show m+1+(ops.size-n)=(m+(ops.size-n))+1 by omega];refine⟨fun h0=>?_,fun j hj=>?_⟩
  ·exfalso
   obtain⟨i,hi⟩:=hmem
   match rest,hrest,hpw with
   | k::rest',hrest,hpw =>
    have hk:=(hrest k).1 List.mem_cons_self
    have hall:∀ j,j<k->listed.getD j true=true:=by
     intro j hjk
     cases h:listed.getD j true with
     | true=>rfl
     | false =>
      have:=(hrest j).2 ⟨by omega,h⟩
      rcases List.mem_cons.1 this with rfl|h'
      ·omega
      ·have:=(List.pairwise_cons.1 hpw).1 j h'
       omega
    have hkr:k∈Region.ready .any ops listed:=by
     have:=lexHead_ready n 0 _ hlex k (by omega) (by omega)
     rw[mem_ready] at this ⊢
     obtain⟨_,ok,hok,hafter⟩:=this
     refine⟨hk.2,ok,hok,fun e he hb=>?_⟩
     have h1:=hafter e he hb
     have hks:k<ops.size:=(Array.getElem?_eq_some_iff.1 hok).1
     have hlt:e.on<k:=by
      rcases Nat.lt_or_ge e.on k with h|h
      ·exact h
      ·exfalso
       have h2:=canon_get (k-0) 0 (Array.replicate ops.size false) e.on
       rw[if_neg (by omega)] at h2
       rcases Nat.lt_or_ge e.on ops.size with h3|h3
       ·have h4:(Array.replicate ops.size false).getD e.on true=false:=by simp[h3]
        rw[h4] at h2;rw[getD_both h2] at h1;cases h1
       ·have:(canon (k-0) 0 (Array.replicate ops.size false)).getD e.on false=false:=by
         rw[Array.getD_eq_getD_getElem?,Array.getElem?_eq_none (by rw[canon_size];simpa using h3)];rfl
        rw[this] at h1;cases h1
     have h5:=hall e.on hlt
     have:e.on<listed.size:=by rw[inv.size];omega
     simp[this] at h5 ⊢;exact h5
    rw[h0] at hkr;cases hkr
  ·have hjn:=hready j hj
   obtain⟨hjun,oj,hoj,hjall⟩:=mem_ready.1 hj
   have hjrest:j∈rest:=(hrest j).2 ⟨hjn,hjun⟩
   have hnw:∀ i∈rest,∀ e∈oj.after,Region.binds .any e=true->e.on≠i:=by
    intro i hi e he hb heq
    have h1:=hjall e he hb
    rw[heq,getD_both ((hrest i).1 hi).2] at h1
    cases h1
   have hap:∀ i∈rest,i<j->∀ oi,ops[i]? = some oi->oi.apart ops oj=true:=by
    intro i hi hij oi hoi
    have hf:=lexHead_free n 0 _ hlex i (Nat.zero_le _) (by have:=(hrest i).1 hi;omega)
    have hjs:j<ops.size:=(Array.getElem?_eq_some_iff.1 hoj).1
    refine Region.free_spec hoi hf j oj hoj (by omega) ?_ (hnw i hi);rw[canon_get,if_neg (by omega)];simp[hjs]
   have inC:∀ i,i<n->N i=true->i∈C:=by
    intro i hi hN
    have:=List.all_eq_true.1 hC3 i (List.mem_range.2 hi)
    simpa [hN] using this
   have hus:∀ i∈rest,i<j->¬ (N i=true/\N j=true):=by
    rintro i hi hij⟨hNi,hNj⟩
    have hi':=(hrest i).1 hi
    have:=chain_ready inv hC1 hC2' (inC i hi'.1 hNi) (inC j hjn hNj) hij hj
    rw[getD_both hi'.2] at this;cases this
   have hstep:=CW.pull (Region.noSelect_spec hsel) hoj rest hS hjrest hap hus hpw hW
   have hlen':(rest.erase j).length=m:=by rw[List.length_erase_of_mem hjrest];omega
   have hnd:rest.Nodup:=hpw.imp (fun h=>Nat.ne_of_lt h)
   have hrest':∀ k,k∈rest.erase j↔k<n/\(listed.setIfInBounds j true).getD k true=false:=by
    intro k;rw[hnd.mem_erase_iff,hrest k]
    by_cases hkj:k=j
    ·subst hkj
     have hks:k<listed.size:=by rw[inv.size];exact(Array.getElem?_eq_some_iff.1 hoj).1
     simp[hks]
    ·rw[getD_set_ne true (fun h=>hkj h.symm)]
     simp[hkj]
   have hpw':(rest.erase j).Pairwise (· < ·):=hpw.sublist List.erase_sublist
   have inv':=inv.set hj hjn
   unfold CStep at hstep
   cases hnj:N j with
   | false =>
    simp only[hnj] at hstep
    obtain⟨v,hy,hW'⟩:=hstep
    exact hy.wpOp hoj hS (ih _ _ _ _ hlen' inv' hrest' hpw' hW' hS)
   | true =>
    simp only[hnj] at hstep
    rcases hstep with ⟨hw,hW'⟩|⟨hw,hg⟩
    ·unfold wpOp
     simp only[hoj,hw,Bool.false_eq_true,if_false];exact ih _ _ _ _ hlen' inv' hrest' hpw' hW' hS
    ·unfold wpOp
     simp only[hoj,hw,if_true];exact .inl (hg.wp fun v w' ⟨hS',hW'⟩=>ih _ _ _ _ hlen' inv' hrest' hpw' hW' hS')
theorem region{id:Nat}{Q:Exit->Act->World->Prop}{a:Act}{w:World}{l:List Oper}(n:Nat)(S:World->Prop)(N:Nat->Bool)(C:List Nat)
  (hm:P.follows .mixedOrders=true) (hB:checkC l.toArray n N C=true) (hS:S w.drew)
  (h:CW P l.toArray S N (fun a' w'=>wpList P l.toArray Q (l.drop n) a' w') (List.range n) a w.drew):(Code.region id l.toArray true).wp P Q a w:=by
 have hB':=hB
 simp only[checkC,Bool.and_eq_true,decide_eq_true_eq] at hB'
 have hn:=hB'.1.1.1.1.1.2
 refine wp_region_any hm ?_
 have inv0:HeadInv .any l.toArray n (Array.replicate l.toArray.size false) :=
  ⟨by simp,fun j oj _ hl=>(by rw[getD_replicate_false] at hl;cases hl),fun t _ ht=>getD_in (by simpa using ht) (getD_replicate_false _ _)⟩
 have hdl:(l.drop n).length=l.toArray.size-n:=by simp
 have:=soundC (Q:=Q) hB (fun listed a' w' hq hF=>by
  have:=wpAny_of_seq (md:=.any) (Q':=Q) (l.drop n) n listed a' w' (fun j=>by simp[List.getElem?_drop]) (by rw[hdl];exact hq) hF
  rwa [hdl] at this) n (List.range n) a w.drew (Array.replicate l.toArray.size false) (by simp) inv0
  (fun j=>by
   rw[List.mem_range]
   constructor
   ·intro hj;refine⟨hj,?_⟩
    have:j<l.toArray.size:=by omega
    simp at this;simp[this]
   ·exact fun h=>h.1)
  List.pairwise_lt_range h hS
 rw[show n+(l.toArray.size-n)=l.toArray.size by omega] at this;exact this
def pathTo(ops:Array Oper):Nat->Nat->Nat->Option (List Nat)
 | 0,_,_=>none
 | f+1,i,j=>if i==j then some [j] else ((List.range j).reverse.filter fun k=>decide (i<=k)&&Region.waitsFor .any ops j k).findSome? fun k=>(pathTo ops f i k).map (·++[j])
def chainFrom(ops:Array Oper)(n:Nat):Nat->List Nat->List Nat
 | _,[]=>[]
 | i,j::r=>((pathTo ops n i j).getD []).drop 1++chainFrom ops n j r
def chainOf(ops:Array Oper)(n:Nat)(N:Nat->Bool):List Nat :=
 match (List.range n).filter N with
 | []=>[]
 | i::r=>i::chainFrom ops n i r
theorem region'{id:Nat}{Q:Exit->Act->World->Prop}{a:Act}{w:World}{l:List Oper}(n:Nat)(S:World->Prop)(N:Nat->Bool)
  (hm:P.follows .mixedOrders=true) (hB:checkC l.toArray n N (chainOf l.toArray n N)=true) (hS:S w.drew)
  (h:CW P l.toArray S N (fun a' w'=>wpList P l.toArray Q (l.drop n) a' w') (List.range n) a w.drew):(Code.region id l.toArray true).wp P Q a w:=region n S N _ hm hB hS h
theorem pure{i:Nat}{rest:List Nat}{a:Act}{w:World}{o:Oper}{v:Value}(ho:ops.toList[i]? = some o)(hN:N i=false)(hw:Region.wanted o (yielded ops a.tmps)=true)
  (hv:∀ w,S w->(execOp a.eval o).run P w=.ok (.value v) w) (h:CW P ops S N F rest (a.put o.dst v) w):CW P ops S N F (i::rest) a w :=
 ⟨o,by simpa using ho,by unfold CStep;simp only[hN];exact⟨v,.inl ⟨hw,hv⟩,h⟩⟩
theorem skip{i:Nat}{rest:List Nat}{a:Act}{w:World}{o:Oper}(ho:ops.toList[i]? = some o)(hw:Region.wanted o (yielded ops a.tmps)=false)
  (h:CW P ops S N F rest (a.put o.dst undef) w):CW P ops S N F (i::rest) a w :=
 ⟨o,by simpa using ho,by
  unfold CStep
  cases hn:N i with
  | false=>exact⟨undef,.inr ⟨hw,rfl⟩,h⟩
  | true=>exact .inl ⟨hw,h⟩⟩
theorem done{a:Act}{w:World}(h:F a w):CW P ops S N F [] a w:=h
theorem noise{i:Nat}{rest:List Nat}{a:Act}{w:World}{o:Oper}(ho:ops.toList[i]? = some o)(hN:N i=true)(hw:Region.wanted o (yielded ops a.tmps)=true)
  (h:Gives P o a w (fun v w'=>S w'/\CW P ops S N F rest (a.put o.dst v) w')):CW P ops S N F (i::rest) a w :=
 ⟨o,by simpa using ho,by unfold CStep;simp only[hN];exact .inr ⟨hw,h⟩⟩
end
end Ch
end Go.Proofs.YtjnllcnknjlmmaaGreat
