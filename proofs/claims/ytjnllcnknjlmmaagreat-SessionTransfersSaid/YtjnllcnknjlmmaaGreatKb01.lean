/- Layer 41. -/
import Derived.Test.YtjnllcnknjlmmaaGreatKa10
set_option linter.unusedSimpArgs false
set_option linter.unusedVariables false
set_option maxRecDepth 100000
set_option maxHeartbeats 4000000
namespace Go.Proofs.YtjnllcnknjlmmaaGreat
open Go Go.RowKit
namespace Se
section
variable {w0 w w':World} {X:List Nat} {L L' P P':List At}
theorem St.own_rd{s:Nat}{r:Option Nat}{A:Option Addr}{n c:Nat}{xs:List Value}(h:St w0 X (.own s r A n c xs::L) w):St w0 X (.rd A xs::L) w:=by
 have ho:Ow w s r A n c xs:=h.hold _ List.mem_cons_self
 have hnd:=h.nd
 simp only[ownedL,List.flatMap_cons,List.nodup_append] at hnd;refine⟨?_,hnd.2.1,?_,fun g hg=>h.may g (by simp only[ownedL,List.flatMap_cons,List.mem_append];exact .inr hg),h.fr⟩
 ·intro a ha
  rcases List.mem_cons.1 ha with rfl|ha
  ·exact ho.rd
  ·exact h.hold a (List.mem_cons_of_mem _ ha)
 ·intro a ha b hb
  have hb':b∈ownedL L:=hb
  rcases List.mem_cons.1 ha with rfl|ha
  ·intro hx a ha
   obtain⟨h1,h2,h3|⟨g,off,l,t,hA,hr,hbk,h3,h4,h5⟩⟩:=ho
   ·have:n=0:=by omega
    subst this;simp at h1;exact absurd h1 hx
   ·rw[hA] at ha;cases ha
    exact fun e=>hnd.2.2 g (by simp[At.owned,hr]) b hb' e
  ·exact h.sep a (List.mem_cons_of_mem _ ha) b (by simp only[ownedL,List.flatMap_cons,List.mem_append];exact .inr hb')
end
end Se
end Go.Proofs.YtjnllcnknjlmmaaGreat
namespace Go.Proofs.YtjnllcnknjlmmaaGreat
open Go Go.RowKit
namespace Se
end Se
end Go.Proofs.YtjnllcnknjlmmaaGreat
namespace Go.Proofs.YtjnllcnknjlmmaaGreat
namespace Or
open Go Go.RowKit Hv Ch
end Or
end Go.Proofs.YtjnllcnknjlmmaaGreat
namespace Go.Proofs.YtjnllcnknjlmmaaGreat
namespace Lift
open Go Go.ChangeShapes Go.WideShapes Go.ChangeAt Go.RowKit
variable {H:Type} {enc:TypeId × Value->H} {P:Program}
end Lift
end Go.Proofs.YtjnllcnknjlmmaaGreat
namespace Go.Proofs.YtjnllcnknjlmmaaGreat
open Go Go.RowKit
namespace Se
theorem St.dup{w0 w:World}{X:List Nat}{L:List At}{A:Option Addr}{xs:List Value}(hs:St w0 X L w)(hm:At.rd A xs∈L):St w0 X (.rd A xs::L) w:=hs.addRd (hs.hold _ hm) fun b hb=>hs.sep _ hm b hb
end Se
end Go.Proofs.YtjnllcnknjlmmaaGreat
namespace Go.Proofs.YtjnllcnknjlmmaaGreat
open Go Go.RowKit
namespace Se
end Se
end Go.Proofs.YtjnllcnknjlmmaaGreat
namespace Go.Proofs.YtjnllcnknjlmmaaGreat
open Go Go.ChangeShapes Go.WideShapes Go.ChangeAt Go.RowKit
namespace Lift
variable {P:Program}
end Lift
end Go.Proofs.YtjnllcnknjlmmaaGreat
namespace Go.Proofs.YtjnllcnknjlmmaaGreat
open Go Go.ChangeShapes Go.WideShapes Go.ChangeAt Go.RowKit
namespace Lift
def fkF(P:Program)(rec:TypeId->Option (List (Option IntKind)))(t:TypeId):List Field->Nat->Option (List (Option IntKind))
 | [],o=>if o=P.cellsOf t then some [] else none
 | f::fs,o=>if f.offset=o then (rec f.type).bind fun ks=>if ks.length=P.cellsOf f.type then (fkF P rec t fs (o+ks.length)).map (ks++·) else none else none
def fk(P:Program):Nat->TypeId->Option (List (Option IntKind))
 | 0,_=>none
 | n+1,t =>
  match P.underlying t with
  | some .bool=>some [none]
  | some (.int k)=>some [some k]
  | some (.struct fs)=>fkF P (fk P n) t fs.toList 0
  | some (.array m e)=>(fk P n e).bind fun ks=>if ks.length=P.cellsOf e/\m*ks.length=P.cellsOf t then some (List.replicate m ks).flatten else none
  | _=>none
def fit1:Option IntKind->Value->Prop
 | none,v=>∃ b,v=.bool b
 | some k,v=>∃ z,v=.int k z/\(Lit.int k z).wf=true
def fit:List (Option IntKind)->List Value->Prop
 | [],vs=>vs=[]
 | k::ks,vs=>∃ v us,vs=v::us/\fit1 k v/\fit ks us
theorem fit_append:∀ {ks js:List (Option IntKind)} {vs us:List Value},fit ks vs->fit js us->fit (ks++js) (vs++us)
 | [],_,vs,_,h,h2=>by
  have:vs=[]:=h
  subst this;exact h2
 | k::ks,_,vs,_,h,h2=>by
  obtain⟨v,us,rfl,h1,h⟩:=h
  exact⟨v,_,rfl,h1,fit_append h h2⟩
theorem take_drop_split(cs:List Value)(o m:Nat):cs.drop o=(cs.drop o).take m++cs.drop (o+m):=by
 rw[<-List.drop_drop,List.take_append_drop]
section
variable {H:Type} {enc:TypeId × Value->H} {P:Program} {w:World} {base:Nat} {spare:Nat->Bool} {held:Bool}
theorem fit_fields{rec:TypeId->Option (List (Option IntKind))}{t:TypeId}{cs:List Value}(hcs:cs.length=P.cellsOf t):∀ (fs:List Field) (o:Nat) (ks:List (Option IntKind)),fkF P rec t fs o=some ks ->
  (∀ f∈fs,∀ js,rec f.type=some js->fit js ((cs.drop f.offset).take (P.cellsOf f.type)))->fit ks (cs.drop o)
 | [],o,ks,h,_=>by
  unfold fkF at h
  split at h
  ·cases h
   show cs.drop o=[]
   exact List.drop_eq_nil_of_le (by omega)
  ·cases h
 | f::fs,o,ks,h,hf=>by
  unfold fkF at h
  split at h
  ·rename_i ho
   subst ho
   cases hr:rec f.type with
   | none=>simp[hr] at h
   | some js =>
    rw[hr,Option.bind_some] at h
    split at h
    ·rename_i hl
     cases hq:fkF P rec t fs (f.offset+js.length) with
     | none=>simp[hq] at h
     | some qs =>
      simp only[hq,Option.map_some,Option.some.injEq] at h;subst h;rw[take_drop_split cs f.offset js.length];refine fit_append ?_ (fit_fields hcs fs _ _ hq fun g hg=>hf g (List.mem_cons_of_mem _ hg));rw[hl];exact hf f List.mem_cons_self _ hr
    ·cases h
  ·cases h
theorem fit_reps{ks:List (Option IntKind)}{cs:List Value}:∀ (m i:Nat),cs.length=(i+m)*ks.length->(∀ j,i<=j->j<i+m->fit ks ((cs.drop (j*ks.length)).take ks.length))->fit (List.replicate m ks).flatten (cs.drop (i*ks.length))
 | 0,i,hl,_=>by
  show cs.drop _=[]
  exact List.drop_eq_nil_of_le (by rw[hl];simp)
 | m+1,i,hl,h=>by
  rw[List.replicate_succ,List.flatten_cons,take_drop_split cs (i*ks.length) ks.length];refine fit_append (h i (Nat.le_refl _) (by omega)) ?_;rw[<-Nat.succ_mul];exact fit_reps m (i+1) (by rw[hl];congr 1;omega) fun j h1 h2=>h j (by omega) (by omega)
theorem fit_of:∀ (n:Nat) {t:TypeId} {fuel:Nat} {cs:List Value} {x:DataW H × List MemPlace} {ks:List (Option IntKind)},fk P n t=some ks->DataW.trod enc P w base spare held fuel t cs=some x->fit ks cs
 | 0,_,_,_,_,_,hk,_=>by simp[fk] at hk
 | n+1,t,fuel,cs,x,ks,hk,h=>by
  unfold fk at hk
  split at hk
  ·rename_i ht
   cases hk
   obtain⟨b,rfl,_⟩:=DataW.trod_bool ht h
   exact⟨_,[],rfl,⟨b,rfl⟩,rfl⟩
  ·rename_i k ht
   cases hk
   obtain⟨z,rfl,_,hz⟩:=DataW.trod_int ht h
   exact⟨_,[],rfl,⟨z,rfl,hz⟩,rfl⟩
  ·rename_i fs ht
   obtain⟨xs,m,_,_,hl,hxl,hx⟩:=DataW.trod_struct ht h
   have:=fit_fields (cs:=cs) hl _ _ _ hk fun f hf js hjs=>by
    obtain⟨i,hi,rfl⟩:=List.getElem_of_mem hf
    have hi':i<fs.size:=by simpa using hi
    have e:=hx i fs[i] (by simp[hi'])
    rw[List.getElem?_eq_getElem (by omega)] at e;simp only[Array.getElem_toList] at hjs ⊢;exact fit_of n hjs e
   simpa using this
  ·rename_i m e ht
   cases hr:fk P n e with
   | none=>simp[hr] at hk
   | some js =>
    rw[hr,Option.bind_some] at hk
    split at hk
    ·rename_i hc
     cases hk
     obtain⟨xs,m',_,_,hl,hxl,hx⟩:=DataW.trod_array ht h
     have:=fit_reps (ks:=js) (cs:=cs) m 0 (by rw[hl,<-hc.2];simp) fun j _ h2=>by
      have e:=hx j (by omega)
      rw[List.getElem?_eq_getElem (by omega)] at e;rw[hc.1];exact fit_of n hr e
     simpa using this
    ·cases hk
  ·cases hk
end
theorem open_flatv{H:Type}{enc:TypeId × Value->H}{P:Program}{W:World}{r:Reach}{base:Nat}{t:TypeId}{v:Value}{d:DataW H}{p:List MemPlace}{ks:List (Option IntKind)}(n:Nat)(ht:(P.underlying t).map TypeDesc.isRow=some true)(hk:fk P n t=some ks)(hv:Value.okWide P W r base t v)
  (h:DataW.Trod enc P W 0 (fun _=>true) true t v d p):∃ cs:List Value,v=.agg cs.toArray/\fit ks cs:=by
 obtain⟨fuel,hf⟩:=h
 have hfit:=fit_of n hk hf
 obtain⟨cs,rfl⟩:∃ cs,v=.agg cs:=by
  unfold Value.okWide at hv
  split at hv
  ·obtain⟨cs,rfl,_⟩:=hv;exact⟨_,rfl⟩
  ·obtain⟨cs,rfl,_⟩:=hv;exact⟨_,rfl⟩
  ·rename_i h1 h2
   cases hu:P.underlying t with
   | none=>simp[hu] at ht
   | some d =>
    cases d <;> simp[hu,TypeDesc.isRow] at ht
    ·exact absurd hu (h2 _ _)
    ·exact absurd hu (h1 _)
 exact⟨cs.toList,by simp,by simpa [Value.cells] using hfit⟩
end Lift
end Go.Proofs.YtjnllcnknjlmmaaGreat
namespace Go.Proofs.YtjnllcnknjlmmaaGreat
open Go Go.RowKit
namespace Se
end Se
end Go.Proofs.YtjnllcnknjlmmaaGreat
namespace Go.Proofs.YtjnllcnknjlmmaaGreat
namespace Gd
open Go Go.RowKit Hv Ch
section
variable {P:Program} {ops:Array Oper} {S:World->Prop} {N:Nat->Bool} {F:Act->World->Prop} {i:Nat} {rest:List Nat} {a:Act} {w:World} {o:Oper} {v:Value} {B:Bool}
variable {K:Act->World->Prop} {d:Option Tmp} {op:Op} {ty:TypeId} {ps:String} {es:Array Edge} {gj:Nat × Bool} {c x y:Operand}
theorem gpick{b e:Bool}(hop:o.op=.pick c x y)(hN:N i=false)(hw:Region.wanted o (yielded ops a.tmps)=B)
  (hv:B=true->a.eval c=.bool b/\pk b (a.eval x) (a.eval y)=v) (he:v=.bool e) (h:∀ c,Hid (c=e)->K (a.put o.dst (mv B (.bool c))) w):CStep P ops S N i o K a w :=
 gb hN hw (fun hb w _=>by rw[run_pick hop (hv hb).1,(hv hb).2]) he h
theorem plainL{Q:Exit->Act->World->Prop}{l:List Oper}:∀ (rest:List Nat) (a:Act) (w:World),S w->CW P l.toArray S N (Q .normal) rest a w->wpOps P l.toArray Q rest a w
 | [],_,_,_,h=>h
 | i::rest,a,w,hS,⟨o,ho,h⟩=>by
  unfold CStep at h
  cases hn:N i with
  | false =>
   simp only[hn] at h
   obtain⟨v,hy,h⟩:=h
   exact hy.wpOp ho hS (plainL rest _ _ hS h)
  | true =>
   simp only[hn] at h
   rcases h with ⟨hw,h⟩|⟨hw,hg⟩
   ·show wpOp P l.toArray Q i (wpOps P l.toArray Q rest) a w
    unfold wpOp;simp only[ho,hw,Bool.false_eq_true,if_false];exact plainL rest _ _ hS h
   ·show wpOp P l.toArray Q i (wpOps P l.toArray Q rest) a w
    unfold wpOp;simp only[ho,hw,if_true];exact .inl (hg.wp fun v w' ⟨hS',h⟩=>plainL rest _ _ hS' h)
theorem plain{id:Nat}{Q:Exit->Act->World->Prop}{l:List Oper}(n:Nat)(S:World->Prop)(N:Nat->Bool)(hn:l.length=n)(hS:S w)(h:CW P l.toArray S N (Q .normal) (List.range n) a w):(Code.region id l.toArray false).wp P Q a w:=by
 refine wp_region ?_;rw[List.size_toArray,hn];exact plainL _ _ _ hS h
end
end Gd
end Go.Proofs.YtjnllcnknjlmmaaGreat
namespace Go.Proofs.YtjnllcnknjlmmaaGreat
open Go Go.RowKit
namespace Se
end Se
namespace Ch
open Go Go.RowKit Hv Ch
end Ch
namespace Hv
end Hv
namespace Or
open Go Go.RowKit Hv Ch
end Or
namespace Gd
open Go Go.RowKit Hv Ch
section
variable {P:Program} {ops:Array Oper} {S:World->Prop} {N:Nat->Bool} {K:Act->World->Prop} {i:Nat} {a:Act} {w:World} {o:Oper} {v:Value} {B:Bool} {d:Option Tmp} {op:Op} {ty:TypeId} {ps:String} {es:Array Edge} {gj:Nat × Bool} {c x y:Operand} {e:Bool}
theorem u0{b:UnOp}{t:TypeId}(h:∀ c,Hid (c=e)->K (a.put d (.bool c)) w)(hN:N i=false:=by rfl)(hv:∀ w,S w->(execOp a.eval ⟨d,.unOp b t x,4,ps,es,none⟩).run P w=.ok (.value v) w:=by intro wx hS;go_simp;(first|done|with_reducible rfl))(he:v=.bool e:=by with_reducible rfl):CStep P ops S N i ⟨d,.unOp b t x,4,ps,es,none⟩ K a w:=qb hN rfl hv he h
theorem u1{b:UnOp}{t:TypeId}(h:∀ c,Hid (c=e)->K (a.put d (mv B (.bool c))) w)(hN:N i=false:=by rfl)(hw:Region.wanted ⟨d,.unOp b t x,4,ps,es,some gj⟩ (yielded ops a.tmps)=B:=by first|exact Gd.want_t rfl rfl rfl|exact Gd.want_f rfl rfl rfl|exact Gd.want_mt rfl rfl rfl|exact Gd.want_mf rfl rfl rfl)(hv:B=true->∀ w,S w->(execOp a.eval ⟨d,.unOp b t x,4,ps,es,some gj⟩).run P w=.ok (.value v) w:=by intro hb;have hb0:=hb;(try simp only[Bool.and_eq_true] at hb);intro wx hS;go_simp;(first|done|with_reducible rfl))(he:v=.bool e:=by with_reducible rfl):CStep P ops S N i ⟨d,.unOp b t x,4,ps,es,some gj⟩ K a w:=gb hN hw hv he h
theorem p1{b:Bool}(h:∀ c,Hid (c=e)->K (a.put d (mv B (.bool c))) w)(hN:N i=false:=by rfl)(hw:Region.wanted ⟨d,.pick c x y,ty,ps,es,some gj⟩ (yielded ops a.tmps)=B:=by first|exact Gd.want_t rfl rfl rfl|exact Gd.want_f rfl rfl rfl|exact Gd.want_mt rfl rfl rfl|exact Gd.want_mf rfl rfl rfl)(hv:B=true->a.eval c=.bool b/\pk b (a.eval x) (a.eval y)=v:=by intro hb;have hb0:=hb;(try simp only[Bool.and_eq_true] at hb);refine⟨?_,?_⟩ <;> (go_simp;(first|done|with_reducible rfl)))(he:v=.bool e:=by with_reducible rfl):CStep P ops S N i ⟨d,.pick c x y,ty,ps,es,some gj⟩ K a w:=gpick rfl hN hw hv he h
theorem l0{t:TypeId}(hN:N i=false:=by rfl)(hv:∀ w,S w->(execOp a.eval ⟨d,.load t x,ty,ps,es,none⟩).run P w=.ok (.value v) w)(h:K (a.put d v) w):CStep P ops S N i ⟨d,.load t x,ty,ps,es,none⟩ K a w:=qp hN rfl hv h
end
end Gd
end Go.Proofs.YtjnllcnknjlmmaaGreat
namespace Go.Proofs.YtjnllcnknjlmmaaGreat
open Go Go.RowKit
namespace Pd
open Se (At)
open Li (v8)
open Bv (n8)
variable {w0 w:World} {X:List Nat} {L:List At}
attribute [local irreducible] Calls
end Pd
end Go.Proofs.YtjnllcnknjlmmaaGreat
namespace Go.Proofs.YtjnllcnknjlmmaaGreat
open Go Go.RowKit
namespace Pd
open Se (At)
open Li (v8 Rd)
open Bv (n8)
variable {w0 w:World} {X:List Nat} {L:List At}
attribute [local irreducible] Calls
theorem big_any(w:World)(bs:List (BitVec 8))(n c:Nat)(hn:n=bs.length)(h4:n<=7){A:Option Addr}(hr:Rd w A (bs.map v8)) :
  Calls Tryz.prog 183 #[.slice A n c] w fun e w'=>e=.returned (.int .i64 (bigL bs:Nat))/\w'=w:=by
 have HN:=Lib.hid hn
 have HR:=Lib.hid hr
 clear hn hr
 have hn1:=IntWalk.i64_in ((n:Int)-1) (by omega)
 go_enter Tryz.func183,Tryz.ntmps183
 go_wp2
 go_loop [3,4] (fun s3 s4=>∃ i:Nat,i<=n/\s4=.int .i64 ((i:Int)-1)/\s3=.int .i64 (bigL (bs.drop i):Nat)) (fun _ i=>(intOf i+1).toNat)
 case atStart=>exact⟨n,by omega,by simp[hn1],by rw[List.drop_eq_nil_of_le (by rw[HN.out];exact Nat.le_refl _)];rfl⟩
 case round =>
  obtain⟨i,hi,rfl,rfl⟩:=hrel
  by_cases hlt:0<i
  ·obtain⟨j,rfl⟩:∃ j,i=j+1:=⟨i-1,by omega⟩
   have hge:(0:Int)<=((j+1:Nat):Int)-1:=by omega
   have hlt':((j+1:Nat):Int)-1<(n:Int):=by omega
   have hil:j<bs.length:=by have:=HN.out;omega
   obtain⟨x,hx⟩:∃ x,x=bs.getD j 0#8:=⟨_,rfl⟩
   obtain⟨g,off,rfl,hc⟩:=Rd_cell HR.out j (v8_at bs j hil)
   rw[<-hx] at hc
   have hlB:=bigL_lt (bs.drop (j+1))
   have ST:bigL (bs.drop j)=x.toNat+256*bigL (bs.drop (j+1)):=by
    rw[List.drop_eq_getElem_cons hil,bigL,hx];simp[hil]
   have hbound:256*bigL (bs.drop (j+1))+x.toNat<=9223372036854775807:=by
    have h1:(256:Nat) ^ (bs.drop (j+1)).length<=256 ^ 6:=Nat.pow_le_pow_right (by omega) (by rw[List.length_drop,<-HN.out];omega)
    have:=x.isLt
    omega
   have ST:=Lib.hid ST
   obtain⟨q,hq⟩:∃ q,q=bigL (bs.drop (j+1)):=⟨_,rfl⟩
   rw[<-hq] at hbound hlB ⊢
   have HQ:=Lib.hid hq
   have e1:(n8 x)=(x.toNat:Int):=rfl
   rw[e1] at hc
   obtain⟨y,hy⟩:∃ y,y=x.toNat:=⟨_,rfl⟩
   rw[<-hy] at hc hbound
   have HY:=Lib.hid hy
   have e2:((j+1:Nat):Int)-1=(j:Int):=by omega
   have b1:=IntWalk.i64_in (256*(q:Int)) (by omega)
   have b2:=IntWalk.i64_in (256*(q:Int)+(y:Int)) (by omega)
   have b3:=IntWalk.i64_in ((j:Int)-1) (by omega)
   rw[e2] at hge hlt' ⊢;clear hx hil hq hy e1 e2 hlB
   go_wp2
   go_round
   case rel=>exact⟨j,by omega,by simp[b3],by rw[ST.out,<-HQ.out,<-HY.out];simp only[Int.natCast_add,Int.natCast_mul,Int.add_comm];rfl⟩
   case measure=>simp[intOf,b3]
  ·obtain rfl:i=0:=by omega
   go_wp2
   go_ret;exact⟨by simp,rfl⟩
end Pd
end Go.Proofs.YtjnllcnknjlmmaaGreat
namespace Go.Proofs.YtjnllcnknjlmmaaGreat
open Go Go.RowKit
namespace Pd
open Se (At)
open Li (v8 Rd)
open Bv (n8)
variable {w0 w:World} {X:List Nat} {L:List At}
attribute [local irreducible] Calls
end Pd
end Go.Proofs.YtjnllcnknjlmmaaGreat
namespace Go.Proofs.YtjnllcnknjlmmaaGreat
open Go Go.RowKit
namespace Pd
open Se (St At Cell)
open Li (v8 Rd Blk)
open Bv (n8 n16 n32)
variable {w0 w:World} {X:List Nat} {L:List At} {h:Hd} {EA DA:Option Addr} {en ec dn dc:Nat}
attribute [local irreducible] Calls
theorem rMost_any(w:World)(k:Nat){n:Nat}(hn:most k=n):Calls Tryz.prog 184 #[iv k] w fun e w'=>e=.returned (iv n)/\w'=w:=by
 have key:(k=2\/k=3\/k=4\/k=6\/k=7)\/(((k:Int)==2)=false/\((k:Int)==3)=false/\((k:Int)==4)=false/\((k:Int)==6)=false/\((k:Int)==7)=false/\most k=0):=by
  by_cases hk:k=2\/k=3\/k=4\/k=6\/k=7
  ·exact .inl hk
  ·refine .inr ⟨?_,?_,?_,?_,?_,?_⟩
   iterate 5
    ·simp;omega
   ·unfold most;split <;> omega
 subst hn
 rcases key with (rfl|rfl|rfl|rfl|rfl)|⟨h2,h3,h4,h6,h7,h0⟩
 iterate 5
  ·go_enter Tryz.func184,Tryz.ntmps184
   go_wp2
   go_ret;exact⟨rfl,rfl⟩
 ·rw[h0]
  clear h0
  go_enter Tryz.func184,Tryz.ntmps184
  go_wp2
  go_ret;exact⟨rfl,rfl⟩
theorem rFramed_st(hs:St w0 X L w)(f:Fm):Calls Tryz.prog 182 #[fv f] w fun e w'=>e=.returned (.bool (framed f))/\St w0 X L w':=by
 obtain⟨hd,dd,al⟩:=f
 have HF:Hid (framed ⟨hd,dd,al⟩=decide (0<=al/\al<=31)):=Lib.hid rfl
 have hc:=and2 (0<=al) (al<=31)
 unfold fv
 dsimp only
 rcases hc with ⟨h1,h3⟩|⟨h1,h2,h3⟩|⟨h1,h2,h3⟩
 ·have H3:=Lib.hid h3
  clear h3
  go_enter Tryz.func182,Tryz.ntmps182
  go_wp2_with (first|((with_reducible refine Se.iL 4 ?_);(refine Se.Ld hs rfl rfl (Cell.blk 0 rfl rfl) ?_))|((first|with_reducible refine Se.ab hs ?_|with_reducible refine Se.abc hs ?_);clear hs;(first|(generalize w.heap.size=g1;intro w hs))))
  go_ret;rw[HF.out,H3.out];exact⟨by simp_all,hs.drop⟩
 iterate 2
  ·have H3:=Lib.hid h3
   clear h3
   go_enter Tryz.func182,Tryz.ntmps182
   go_wp2_with (first|((with_reducible refine Se.iL 4 ?_);(refine Se.Ld hs rfl rfl (Cell.blk 0 rfl rfl) ?_))|((with_reducible refine Se.iL 8 ?_);(refine Se.Ld hs rfl rfl (Cell.blk 0 rfl rfl) ?_))|((first|with_reducible refine Se.ab hs ?_|with_reducible refine Se.abc hs ?_);clear hs;(first|(generalize w.heap.size=g1;intro w hs))))
   go_ret;rw[HF.out,H3.out];exact⟨by simp_all,hs.drop⟩
end Pd
end Go.Proofs.YtjnllcnknjlmmaaGreat
namespace Go.Proofs.YtjnllcnknjlmmaaGreat
open Go Go.RowKit
namespace Pd
open Se (St At Cell)
open Li (v8 Rd Blk)
open Bv (n8 n16 n32)
variable {w0 w:World} {X:List Nat} {L:List At} {h:Hd} {EA DA:Option Addr} {en ec dn dc:Nat}
attribute [local irreducible] Calls
theorem rzeros_any(w:World)(bs:List (BitVec 8)){A:Option Addr}{n c:Nat}(hn:n=bs.length)(hA:Rd w A (bs.map v8))(hle:n<=70368744177664){b:Bool}(hb:zeros bs=b) :
  Calls Tryz.prog 186 #[.slice A n c] w fun e w'=>e=.returned (.bool b)/\w'=w:=by
 have HN:=Lib.hid hn
 have HA:=Lib.hid hA
 have HB:=Lib.hid hb
 clear hn hA hb
 go_enter Tryz.func186,Tryz.ntmps186
 go_wp2
 go_loopg [3] n (fun gh s3 wr=>∃ i:Nat,gh=n-i/\i<=n/\s3=.int .i64 i/\Hid (zeros (bs.take i)=true)/\wr=w)
 case atStart=>exact⟨0,rfl,by omega,rfl,Lib.hid rfl,rfl⟩
 case round =>
  obtain⟨i,rfl,hi,rfl,HT,rfl⟩:=hrel
  by_cases hlt:i<n
  ·have hlt':(i:Int)<(n:Int):=by omega
   have hx:i<bs.length:=by have:=HN.out;omega
   obtain⟨ga,oa,rfl,hca⟩:=Rd_cell HA.out i (v8_at bs i hx)
   obtain⟨x,hxe⟩:∃ x,x=bs.getD i 0#8:=⟨_,rfl⟩
   rw[<-hxe] at hca
   have ex:bs[i]=x:=by rw[hxe];simp[hx]
   by_cases h0:x=0#8
   ·have hv:(n8 x != 0)=false:=by rw[n8_ne,h0];rfl
    have HT2:Hid (zeros (bs.take (i+1))=true):=Lib.hid (by rw[List.take_succ_eq_append_getElem hx];have:=HT.out;unfold zeros at this ⊢;rw[List.all_append,this,ex,h0];rfl)
    clear hx ex hxe h0
    go_wp2
    go_roundg (n-(i+1))
    case measure=>omega
    case rel=>exact⟨i+1,rfl,by omega,by go_num,HT2,rfl⟩
   ·have hv:(n8 x != 0)=true:=by rw[n8_ne];simpa using h0
    have HZ:b=false:=by
     rw[<-HB.out];unfold zeros;rw[<-Bool.not_eq_true,List.all_eq_true];intro h
     have:=h bs[i] (List.getElem_mem hx)
     rw[ex] at this;exact h0 (by simpa using this)
    subst HZ;clear hx ex hxe h0
    go_wp2
    go_ret;exact⟨rfl,rfl⟩
  ·obtain rfl:i=n:=by omega
   have HZ:b=true:=by have:=HT.out;rw[List.take_of_length_le (by rw[<-HN.out];exact Nat.le_refl _),HB.out] at this;exact this
   subst HZ
   go_wp2
   go_ret;exact⟨rfl,rfl⟩
end Pd
end Go.Proofs.YtjnllcnknjlmmaaGreat
namespace Go.Proofs.YtjnllcnknjlmmaaGreat
open Go Go.RowKit
namespace Pd
open Se (St At Cell)
open Li (v8 Rd Blk)
open Bv (n8 n16 n32)
variable {w0 w:World} {X:List Nat} {L:List At}
attribute [local irreducible] Calls
attribute [local go_sem] Gd.mv_true Gd.pk_or Gd.pk_and Gd.pk_true Gd.pk_false
def only1(p:PDU):Bool:=p.h.la && !((p.h.k.toNat:Int)==6 || (p.h.k.toNat:Int)==7) || p.h.su&&((p.h.k.toNat:Int) != 7 || !p.h.la) || decide (0<p.en.length)&&(p.h.k.toNat:Int) != 4&&(p.h.k.toNat:Int) != 5
def only2(p:PDU):Bool:=n16 p.h.id != 0 && !((p.h.k.toNat:Int)==6 || (p.h.k.toNat:Int)==7)&&(p.h.k.toNat:Int) != 9 || n16 p.h.tg != 0&&(p.h.k.toNat:Int) != 6&&(p.h.k.toNat:Int) != 9 || n32 p.h.of != 0 && !((p.h.k.toNat:Int)==6 || (p.h.k.toNat:Int)==7)&&(p.h.k.toNat:Int) != 9 || n32 p.h.ln != 0&&(p.h.k.toNat:Int) != 9
def only3(p:PDU):Bool:=(n8 p.h.al==0&&n8 p.h.dg==0&&n32 p.h.mx==0 || decide ((p.h.k.toNat:Int)<2))&&(n16 p.h.st==0&&n32 p.h.nf==0 || (p.h.k.toNat:Int)==2 || (p.h.k.toNat:Int)==3)
theorem n8_0(x:BitVec 8):(n8 x==0)=decide (x=0#8):=by
 unfold n8;rw[Bool.eq_iff_iff];simp only[beq_iff_eq,decide_eq_true_eq];exact⟨fun h=>BitVec.eq_of_toNat_eq (by simpa using h),fun h=>by subst h;rfl⟩
theorem n16_0(x:BitVec 16):(n16 x==0)=decide (x=0#16):=by
 unfold n16;rw[Bool.eq_iff_iff];simp only[beq_iff_eq,decide_eq_true_eq];exact⟨fun h=>BitVec.eq_of_toNat_eq (by simpa using h),fun h=>by subst h;rfl⟩
theorem n32_0(x:BitVec 32):(n32 x==0)=decide (x=0#32):=by
 unfold n32;rw[Bool.eq_iff_iff];simp only[beq_iff_eq,decide_eq_true_eq];exact⟨fun h=>BitVec.eq_of_toNat_eq (by simpa using h),fun h=>by subst h;rfl⟩
theorem only_eq(p:PDU):only p=(!only1 p && !only2 p&&only3 p):=by
 unfold only only1 only2 only3;simp only[bne,n8_0,n16_0,n32_0]
 have e:∀ m:Nat,((p.h.k.toNat:Int)==(m:Int))=decide (p.h.k.toNat=m):=fun m=>by rw[Bool.eq_iff_iff];simp;omega
 have e2:=e 2;have e3:=e 3;have e4:=e 4;have e5:=e 5;have e6:=e 6;have e7:=e 7;have e9:=e 9
 simp only[Int.cast_ofNat_Int] at e2 e3 e4 e5 e6 e7 e9
 have l2:decide ((p.h.k.toNat:Int)<2)=decide (p.h.k.toNat<2):=by simp only[decide_eq_decide];omega
 have l0:decide (0<p.en.length)=decide (p.en≠[]):=by
  simp only[decide_eq_decide];cases p.en <;> simp
 rw[e2,e3,e4,e5,e6,e7,e9,l2,l0];generalize p.h.k.toNat=k;generalize p.h.la=la;generalize p.h.su=su;rw[Bool.eq_iff_iff];simp only[Bool.and_eq_true,decide_eq_true_eq,Bool.or_eq_true,Bool.not_eq_true',Bool.or_eq_false_iff,Bool.and_eq_false_iff,decide_eq_false_iff_not,Bool.not_eq_false']
 grind
theorem ronly_st(hs:St w0 X L w)(p:PDU){EA DA:Option Addr}{en ec dn dc:Nat}(he:en=p.en.length) :
  Calls Tryz.prog 217 #[.agg (pc p.h EA en ec DA dn dc).toArray] w fun e w'=>e=.returned (.bool (only p))/\St w0 X L w':=by
 obtain⟨PL,hP⟩:∃ PL,PL=pc p.h EA en ec DA dn dc:=⟨_,rfl⟩
 obtain⟨k,hk⟩:∃ k,k=p.h.k.toNat:=⟨_,rfl⟩
 have hkl:k<256:=by rw[hk];exact p.h.k.isLt
 have wk:IntKind.i64.wrap (k:Int)=k:=IntWalk.i64_in _ (by omega)
 have P0:=Lib.hid (show PL[0]? = some (.int .u8 (k:Int)) by rw[hP,hk];rfl)
 have P1:=Lib.hid (show PL[1]? = some (.bool p.h.la) by rw[hP];rfl)
 have P2:=Lib.hid (show PL[2]? = some (.bool p.h.su) by rw[hP];rfl)
 have P3:=Lib.hid (show PL[3]? = some (.slice EA en ec) by rw[hP];rfl)
 have P4:=Lib.hid (show PL[4]? = some (.int .u16 (n16 p.h.id)) by rw[hP];rfl)
 have P5:=Lib.hid (show PL[5]? = some (.int .u16 (n16 p.h.tg)) by rw[hP];rfl)
 have P6:=Lib.hid (show PL[6]? = some (.int .u32 (n32 p.h.of)) by rw[hP];rfl)
 have P7:=Lib.hid (show PL[7]? = some (.int .u32 (n32 p.h.ln)) by rw[hP];rfl)
 have P8:=Lib.hid (show PL[8]? = some (.int .u8 (n8 p.h.al)) by rw[hP];rfl)
 have P9:=Lib.hid (show PL[9]? = some (.int .u8 (n8 p.h.dg)) by rw[hP];rfl)
 have P10:=Lib.hid (show PL[10]? = some (.int .u32 (n32 p.h.mx)) by rw[hP];rfl)
 have P11:=Lib.hid (show PL[11]? = some (.int .u16 (n16 p.h.st)) by rw[hP];rfl)
 have P12:=Lib.hid (show PL[12]? = some (.int .u32 (n32 p.h.nf)) by rw[hP];rfl)
 rw[<-hP]
 have HE:=Lib.hid he
 have HK:=Lib.hid hk
 clear hP he hk hkl
 go_enter Tryz.func217,Tryz.ntmps217
 go_upto_region 2 with (first|((with_reducible refine Se.iL 6 ?_);(refine Se.Ld hs rfl rfl (Cell.blk 0 rfl P0.out) ?_))|((first|with_reducible refine Se.ab hs ?_|with_reducible refine Se.abc hs ?_);clear hs;(first|(generalize w.heap.size=g1;intro w hs))))
 refine Gd.plain 7 (fun wx=>Blk wx g1 PL 65) (fun |_=>false) rfl (hs.hold (.blk g1 65 PL) (by simp)) ?_;change Ch.CW _ _ _ _ _ [0,1,2,3,4,5,6] _ _
 iterate 7 (refine Gd.look (by rfl) ?_;(first|((first|refine Gd.p0 ?_|refine Gd.p1 ?_|refine Gd.b0 ?_|refine Gd.u0 ?_|refine Gd.b1 ?_|refine Gd.u1 ?_);intro _ _)|refine Gd.a0 ?_|refine Gd.a1 ?_);(try simp only[pU]))
 refine Ch.done ?_
 go_upto_region 3 with (fail)
 refine Gd.plain 33 (fun wx=>Blk wx g1 PL 65) (fun |_=>false) rfl (hs.hold (.blk g1 65 PL) (by simp)) ?_;change Ch.CW _ _ _ _ _ [0,1,2,3,4,5,6,7,8,9,10,11,12,13,14,15,16,17,18,19,20,21,22,23,24,25,26,27,28,29,30,31,32] _ _
 iterate 33 (refine Gd.look (by rfl) ?_;(first|refine Gd.l0 (hv:=fun wx hS=>Se.xL (hc:=by rw[(hS).cell];first|exact P1.out|exact P2.out|exact P3.out)) (h:=?_)|refine Gd.l1 (hv:=fun hb0 wx hS=>Se.xL (hc:=by rw[(hS).cell];first|exact P1.out|exact P2.out|exact P3.out) (hx:=by exact Gd.mv_of hb0)) (h:=?_)|refine Gd.l1 (hv:=fun hb0 wx hS=>Se.xL (hc:=by rw[(hS).cell];first|exact P1.out|exact P2.out|exact P3.out)) (h:=?_)|((first|refine Gd.p0 ?_|refine Gd.p1 ?_|refine Gd.b0 ?_|refine Gd.u0 ?_|refine Gd.b1 ?_|refine Gd.u1 ?_);intro _ _)|refine Gd.a0 ?_|refine Gd.a1 ?_);(try simp only[pU]))
 refine Ch.done ?_
 go_upto_region 5 with (fail)
 ·go_wp2_with fail
  go_ret;refine⟨congrArg (fun b=>Ending.returned (.bool b)) ?_,hs.drop⟩;unfold Hid at *
  subst_vars
  have h1:true=only1 p:=by first|assumption|(symm;assumption)
  rw[only_eq,<-h1]
  rfl
 refine Gd.plain 46 (fun wx=>Blk wx g1 PL 65) (fun |_=>false) rfl (hs.hold (.blk g1 65 PL) (by simp)) ?_;change Ch.CW _ _ _ _ _ [0,1,2,3,4,5,6,7,8,9,10,11,12,13,14,15,16,17,18,19,20,21,22,23,24,25,26,27,28,29,30,31,32,33,34,35,36,37,38,39,40,41,42,43,44,45] _ _
 iterate 46 (refine Gd.look (by rfl) ?_;(first|refine Gd.l0 (hv:=fun wx hS=>Se.xL (hc:=by rw[(hS).cell];first|exact P4.out|exact P5.out|exact P6.out|exact P7.out)) (h:=?_)|refine Gd.l1 (hv:=fun hb0 wx hS=>Se.xL (hc:=by rw[(hS).cell];first|exact P4.out|exact P5.out|exact P6.out|exact P7.out) (hx:=by exact Gd.mv_of hb0)) (h:=?_)|refine Gd.l1 (hv:=fun hb0 wx hS=>Se.xL (hc:=by rw[(hS).cell];first|exact P4.out|exact P5.out|exact P6.out|exact P7.out)) (h:=?_)|((first|refine Gd.p0 ?_|refine Gd.p1 ?_|refine Gd.b0 ?_|refine Gd.u0 ?_|refine Gd.b1 ?_|refine Gd.u1 ?_);intro _ _)|refine Gd.a0 ?_|refine Gd.a1 ?_);(try simp only[pU]))
 refine Ch.done ?_
 go_upto_region 7 with (fail)
 ·go_wp2_with fail
  go_ret;refine⟨congrArg (fun b=>Ending.returned (.bool b)) ?_,hs.drop⟩;unfold Hid at *
  subst_vars
  have h1:false=only1 p:=by first|assumption|(symm;assumption)
  have h2:true=only2 p:=by first|assumption|(symm;assumption)
  rw[only_eq,<-h1,<-h2]
  rfl
 refine Gd.plain 36 (fun wx=>Blk wx g1 PL 65) (fun |_=>false) rfl (hs.hold (.blk g1 65 PL) (by simp)) ?_;change Ch.CW _ _ _ _ _ [0,1,2,3,4,5,6,7,8,9,10,11,12,13,14,15,16,17,18,19,20,21,22,23,24,25,26,27,28,29,30,31,32,33,34,35] _ _
 iterate 36 (refine Gd.look (by rfl) ?_;(first|refine Gd.l0 (hv:=fun wx hS=>Se.xL (hc:=by rw[(hS).cell];first|exact P8.out|exact P9.out|exact P10.out|exact P11.out|exact P12.out)) (h:=?_)|refine Gd.l1 (hv:=fun hb0 wx hS=>Se.xL (hc:=by rw[(hS).cell];first|exact P8.out|exact P9.out|exact P10.out|exact P11.out|exact P12.out) (hx:=by exact Gd.mv_of hb0)) (h:=?_)|refine Gd.l1 (hv:=fun hb0 wx hS=>Se.xL (hc:=by rw[(hS).cell];first|exact P8.out|exact P9.out|exact P10.out|exact P11.out|exact P12.out)) (h:=?_)|((first|refine Gd.p0 ?_|refine Gd.p1 ?_|refine Gd.b0 ?_|refine Gd.u0 ?_|refine Gd.b1 ?_|refine Gd.u1 ?_);intro _ _)|refine Gd.a0 ?_|refine Gd.a1 ?_);(try simp only[pU]))
 refine Ch.done ?_
 go_wp2_with fail
 go_ret;refine⟨congrArg (fun b=>Ending.returned (.bool b)) ?_,hs.drop⟩;unfold Hid at *
 subst_vars
 have h1:false=only1 p:=by first|assumption|(symm;assumption)
 have h2:false=only2 p:=by first|assumption|(symm;assumption)
 rw[only_eq,<-h1,<-h2]
 rfl
end Pd
end Go.Proofs.YtjnllcnknjlmmaaGreat
namespace Go.Proofs.YtjnllcnknjlmmaaGreat
open Go Go.RowKit
namespace Pd
open Bv (n8)
theorem strB_inj{a b:List (BitVec 8)}(h:strB a=strB b):a=b:=by
 have h1:(strB a).data.toList=(strB b).data.toList:=by rw[h]
 unfold strB at h1;rw[strOfNums_data,strOfNums_data,List.map_map,List.map_map] at h1
 have hf:∀ x y:BitVec 8,UInt8.ofNat (n8 x).toNat=UInt8.ofNat (n8 y).toNat->x=y:=by
  intro x y h
  have:=congrArg UInt8.toNat h
  unfold n8 at this;simp only[Int.toNat_natCast,UInt8.toNat_ofNat'] at this
  apply BitVec.eq_of_toNat_eq
  have h1:=x.isLt
  have h2:=y.isLt
  omega
 exact List.map_inj_right (fun x y h=>hf x y h) |>.1 h1
end Pd
namespace Se
open Pd Li
end Se
end Go.Proofs.YtjnllcnknjlmmaaGreat
namespace Go.Proofs.YtjnllcnknjlmmaaGreat
open Go Go.RowKit
namespace Pd
open Se (At)
variable {w0 w:World} {X:List Nat} {L:List At}
attribute [local irreducible] Calls
theorem strB_list(a b:List (BitVec 8)):((strB a).toList=(strB b).toList)=(a=b):=by
 rw[ByteArray.toList_eq,ByteArray.toList_eq];refine propext ⟨fun h=>strB_inj ?_,fun h=>by rw[h]⟩
 have h2:(strB a).data=(strB b).data:=Array.toList_inj.1 h
 unfold strB strOfNums at *
 exact congrArg ByteArray.mk h2
def fbad(k fl:Nat)(f:Fm):Bool:=decide (15<fl) || (bit fl 2 && !decide (k=6) && !decide (k=7)) || (bit fl 3&&(!decide (k=7) || !bit fl 2)) || !(bit fl 0==decide (0<hsum k f)) || (bit fl 1&&(decide (k<4) || !f.dd))
def lbad(k hl at0:Nat)(f:Fm):Bool := !decide (hl=hdr k) || (!decide (at0=0) && !decide (at0=start k f)) || (!decide (at0=0)&&decide (most k=0)) || (decide (at0=0)&&(decide (k=6) || decide (k=7)))
def tbad(k fl at0 total:Nat)(f:Fm):Bool := !(bit fl 1==decide (0<dsum k f (decide (0<at0)))) || (decide (at0=0) && !decide (total=hdr k+hsum k f)) || (decide (0<at0)&&(decide (total<at0+1+dsum k f (decide (0<at0))) || decide (at0+most k+dsum k f (decide (0<at0))<total)))
theorem rchain_eq(b:List (BitVec 8))(f:Fm)(h1:framed f=true)(h2:8<=b.length){k fl hl at0 tot:Nat}(e0:k=(b.getD 0 0#8).toNat)(e1:fl=(b.getD 1 0#8).toNat)(e2:hl=(b.getD 2 0#8).toNat)(e3:at0=(b.getD 3 0#8).toNat)(e4:tot=bigL (sub b 4 8)) :
  meas b f=if hdr k=0 then (0,360) else if fbad k fl f=true then (0,361) else if lbad k hl at0 f=true then (0,362) else if tbad k fl at0 tot f=true then (0,362) else (tot,0):=by
 subst e0 e1 e2 e3 e4;unfold meas;rw[if_neg (by rw[h1];decide),if_neg (by omega)]
 dsimp only
 generalize (b.getD 0 0#8).toNat=k;generalize (b.getD 1 0#8).toNat=fl;generalize (b.getD 2 0#8).toNat=hl;generalize (b.getD 3 0#8).toNat=at0;generalize bigL (sub b 4 8)=tot
 have g1:(15<fl\/bit fl 2=true/\k≠6/\k≠7\/bit fl 3=true/\(k≠7\/bit fl 2=false)\/bit fl 0≠decide (0<hsum k f)\/bit fl 1=true/\(k<4\/f.dd=false))↔fbad k fl f=true:=by
  unfold fbad;simp;grind
 have g2:(hl≠hdr k\/at0≠0/\at0≠start k f\/at0≠0/\most k=0\/at0=0/\(k=6\/k=7))↔lbad k hl at0 f=true:=by
  unfold lbad;simp;grind
 have g3:(bit fl 1≠decide (0<dsum k f (decide (0<at0)))\/at0=0/\tot≠hdr k+hsum k f\/0<at0/\(tot<at0+1+dsum k f (decide (0<at0))\/at0+most k+dsum k f (decide (0<at0))<tot))↔tbad k fl at0 tot f=true:=by
  unfold tbad;simp;grind
 simp only[g1,g2,g3]
end Pd
end Go.Proofs.YtjnllcnknjlmmaaGreat
namespace Go.Proofs.YtjnllcnknjlmmaaGreat
open Go Go.RowKit
namespace Pd
open Se (St At Reads)
open Li (v8 Rd Blk)
variable {w0 w:World} {X:List Nat} {L:List At}
attribute [local irreducible] Calls
attribute [local go_sem] Gd.mv_true Gd.pk_or Gd.pk_and Gd.pk_true Gd.pk_false
def fbadI(k fg h:Nat)(dd:Bool):Bool:=decide ((15:Int)<(fg:Int)) || (IntKind.i64.wrap ((fg:Int) / 4)).tmod 2==1&&(k:Int) != 6&&(k:Int) != 7 || (IntKind.i64.wrap ((fg:Int) / 8)).tmod 2==1&&((k:Int) != 7 || !(IntKind.i64.wrap ((fg:Int) / 4)).tmod 2==1) || !((fg:Int).tmod 2==1)==decide (0<h) || (IntKind.i64.wrap ((fg:Int) / 2)).tmod 2==1&&(decide ((k:Int)<4) || !dd)
def lbadI(k hl at0 q s mo:Nat):Bool:=(hl:Int) != (q:Int) || (at0:Int) != 0&&(at0:Int) != (s:Int) || (at0:Int) != 0&&(mo:Int)==0 || (at0:Int)==0&&((k:Int)==6 || (k:Int)==7)
def tbadI(fg at0 tot q h d mo:Nat):Bool := !((IntKind.i64.wrap ((fg:Int) / 2)).tmod 2==1)==decide (0<d) || (at0:Int)==0&&(tot:Int) != (q:Int)+(h:Int) || decide (0<at0)&&(decide ((tot:Int)<(at0:Int)+1+(d:Int)) || decide ((at0:Int)+(mo:Int)+(d:Int)<(tot:Int)))
theorem bitI{x:Nat}(h:x<256):((IntKind.i64.wrap ((x:Int) / 4)).tmod 2==1)=bit x 2/\((IntKind.i64.wrap ((x:Int) / 8)).tmod 2==1)=bit x 3/\((x:Int).tmod 2==1)=bit x 0/\((IntKind.i64.wrap ((x:Int) / 2)).tmod 2==1)=bit x 1:=by
 unfold bit;rw[IntWalk.i64_in _ (by omega),IntWalk.i64_in _ (by omega),IntWalk.i64_in _ (by omega)];rw[Int.tmod_eq_emod_of_nonneg (by omega),Int.tmod_eq_emod_of_nonneg (by omega),Int.tmod_eq_emod_of_nonneg (by omega),Int.tmod_eq_emod_of_nonneg (by omega)];refine⟨?_,?_,?_,?_⟩ <;> rw[Bool.eq_iff_iff] <;> simp only[beq_iff_eq,Nat.reducePow] <;> omega
theorem ltI(a b:Nat):decide ((a:Int)<(b:Int))=decide (a<b):=by simp only[decide_eq_decide];omega
theorem fbadI_eq{k fg:Nat}(h:fg<256)(f:Fm):fbadI k fg (hsum k f) f.dd=fbad k fg f:=by
 unfold fbadI fbad
 obtain⟨h2,h3,h0,h1⟩:=bitI h
 have e6:((k:Int)==6)=decide (k=6):=eqI k 6
 have e7:((k:Int)==7)=decide (k=7):=eqI k 7
 have l4:decide ((k:Int)<4)=decide (k<4):=ltI k 4
 have l15:decide ((15:Int)<(fg:Int))=decide (15<fg):=ltI 15 fg
 simp only[bne,h2,h3,h0,h1,e6,e7,l4,l15]
theorem lbadI_eq(k hl at0:Nat)(f:Fm):lbadI k hl at0 (hdr k) (start k f) (most k)=lbad k hl at0 f:=by
 unfold lbadI lbad
 have e6:((k:Int)==6)=decide (k=6):=eqI k 6
 have e7:((k:Int)==7)=decide (k=7):=eqI k 7
 have a0:((at0:Int)==0)=decide (at0=0):=eqI at0 0
 have m0:((most k:Int)==0)=decide (most k=0):=eqI _ 0
 simp only[bne,eqI,e6,e7,a0,m0]
theorem tbadI_eq(k:Nat){fg:Nat}(h:fg<256)(at0 tot:Nat)(f:Fm):tbadI fg at0 tot (hdr k) (hsum k f) (dsum k f (decide (0<at0))) (most k)=tbad k fg at0 tot f:=by
 unfold tbadI tbad
 obtain⟨h2,h3,h0,h1⟩:=bitI h
 generalize dsum k f (decide (0<at0))=d
 have a0:((at0:Int)==0)=decide (at0=0):=eqI at0 0
 have t0:((tot:Int)==(hdr k:Int)+(hsum k f:Int))=decide (tot=hdr k+hsum k f):=by rw[Bool.eq_iff_iff];simp;omega
 have t1:decide ((tot:Int)<(at0:Int)+1+(d:Int))=decide (tot<at0+1+d):=by simp only[decide_eq_decide];omega
 have t2:decide ((at0:Int)+(most k:Int)+(d:Int)<(tot:Int))=decide (at0+most k+d<tot):=by simp only[decide_eq_decide];omega
 simp only[bne,h1,a0,t0,t1,t2]
theorem rMeasure_st(hs:St w0 X L w)(bs:List (BitVec 8))(f:Fm){S:Option Addr}{n c:Nat}(hn:n=bs.length)(hS:Reads L S (bs.map v8))(hc:n<=c)(hle:n<=70368744177664){t e:Nat}(hm:meas bs f=(t,e)) :
  Calls Tryz.prog 151 #[.slice S n c,fv f] w fun e' w'=>e'=.returned (.tuple #[iv t,iv e])/\St w0 X L w':=by
 obtain⟨F,hF⟩:∃ F,F=fl f:=⟨_,rfl⟩
 obtain⟨b1,hb1⟩:∃ b,framed f=b:=⟨_,rfl⟩
 have FL:=Lib.hid (show F.length=3 by rw[hF];rfl)
 have CF:Hid (∀ (L':List At) (w:World),St w0 X (L'++L) w->Calls Tryz.prog 182 #[.agg F.toArray] w fun e w'=>e=.returned (.bool b1)/\St w0 X (L'++L) w'):=Lib.hid (fun L' w hs=>by rw[hF,<-fv_eq,<-hb1];exact rFramed_st hs f)
 rw[fv_eq,<-hF]
 cases b1 with
 | false =>
  obtain⟨rfl,rfl⟩:t=0/\e=2:=by unfold meas at hm;rw[if_pos hb1] at hm;cases hm;exact⟨rfl,rfl⟩
  clear hm hb1 hF hS hn
  go_enter Tryz.func151,Tryz.ntmps151
  go_wp2_with (first|((with_reducible refine Se.iL 16 ?_);(refine Se.Ldw hs rfl rfl (Reads.blk 0 rfl) (by rw[FL.out];kernel_rfl) ?_))|((first|with_reducible refine Se.ab hs ?_|with_reducible refine Se.abc hs ?_);clear hs;(first|(generalize w.heap.size=g3;intro w hs)))|(go_at_call 182;refine Calls.mono (CF.out [_] _ hs) ?_;clear hs;rintro e w ⟨rfl,hs⟩))
  go_ret2;exact⟨rfl,hs.drop⟩
 | true =>
  by_cases h8:8<=n
  case neg =>
   obtain⟨rfl,rfl⟩:t=0/\e=4:=by unfold meas at hm;rw[if_neg (by rw[hb1];decide),if_pos (by omega)] at hm;cases hm;exact⟨rfl,rfl⟩
   have e8:(n:Int)<8:=by omega
   clear hm hb1 hF hS hn h8
   go_enter Tryz.func151,Tryz.ntmps151
   go_wp2_with (first|((with_reducible refine Se.iL 16 ?_);(refine Se.Ldw hs rfl rfl (Reads.blk 0 rfl) (by rw[FL.out];kernel_rfl) ?_))|((first|with_reducible refine Se.ab hs ?_|with_reducible refine Se.abc hs ?_);clear hs;(first|(generalize w.heap.size=g3;intro w hs)))|(go_at_call 182;refine Calls.mono (CF.out [_] _ hs) ?_;clear hs;rintro e w ⟨rfl,hs⟩))
   go_ret2;exact⟨rfl,hs.drop⟩
  case pos =>
   obtain⟨k,hk⟩:∃ k,k=(bs.getD 0 0#8).toNat:=⟨_,rfl⟩
   obtain⟨fg,hfg⟩:∃ k,k=(bs.getD 1 0#8).toNat:=⟨_,rfl⟩
   obtain⟨hl,hhl⟩:∃ k,k=(bs.getD 2 0#8).toNat:=⟨_,rfl⟩
   obtain⟨at0,hat⟩:∃ k,k=(bs.getD 3 0#8).toNat:=⟨_,rfl⟩
   obtain⟨tot,htot⟩:∃ k,k=bigL (sub bs 4 8):=⟨_,rfl⟩
   have hkl:k<256:=by rw[hk];exact(bs.getD 0 0#8).isLt
   have hfl:fg<256:=by rw[hfg];exact(bs.getD 1 0#8).isLt
   have hhll:hl<256:=by rw[hhl];exact(bs.getD 2 0#8).isLt
   have hatl:at0<256:=by rw[hat];exact(bs.getD 3 0#8).isLt
   have hsl:(sub bs 4 8).length=4:=by simp;omega
   have htl:tot<4294967296:=by have:=bigL_lt (sub bs 4 8);rw[hsl] at this;omega
   obtain⟨g,off,rfl⟩:∃ g off,S=some ⟨g,off,none⟩:=by
    obtain⟨g,off,h,_⟩:=Rd_cell (hS w hs.hold) 0 (v8_at bs 0 (by omega))
    exact⟨g,off,h⟩
   have V0:=Lib.hid (show(bs.map v8)[0]? = some (.int .u8 (k:Int)) by rw[hk];exact v8_at bs 0 (by omega))
   have V1:=Lib.hid (show(bs.map v8)[1]? = some (.int .u8 (fg:Int)) by rw[hfg];exact v8_at bs 1 (by omega))
   have V2:=Lib.hid (show(bs.map v8)[2]? = some (.int .u8 (hl:Int)) by rw[hhl];exact v8_at bs 2 (by omega))
   have V3:=Lib.hid (show(bs.map v8)[3]? = some (.int .u8 (at0:Int)) by rw[hat];exact v8_at bs 3 (by omega))
   have CVL:Hid (∀ (L':List At) (w:World),St w0 X (L'++L) w->Calls Tryz.prog 183 #[.slice (some ⟨g,off+4,none⟩) 4 (c-4)] w fun e w'=>e=.returned (.int .i64 (tot:Int))/\St w0 X (L'++L) w'):=Lib.hid (fun L' w hs=>by
    rw[htot];refine(big_any w (sub bs 4 8) 4 (c-4) hsl.symm (by omega) ?_).mono (fun e w' h=>⟨h.1,by rw[h.2];exact hs⟩)
    have:=Rd_at (((hS.app L') w hs.hold).take 8) 4
    simpa only[<-List.map_take,<-List.map_drop] using this)
   have j4:¬ c=4:=by omega
   have HB0:=rchain_eq bs f hb1 (by omega) hk hfg hhl hat htot
   rw[hm] at HB0
   obtain⟨q10,hq10⟩:∃ b,fbad k fg f=b:=⟨_,rfl⟩
   obtain⟨q12,hq12⟩:∃ b,lbad k hl at0 f=b:=⟨_,rfl⟩
   obtain⟨q15,hq15⟩:∃ b,tbad k fg at0 tot f=b:=⟨_,rfl⟩
   rw[hq10,hq12,hq15] at HB0
   obtain⟨h,hh⟩:∃ h,hsum k f=h:=⟨_,rfl⟩
   obtain⟨q,hq⟩:∃ q,hdr k=q:=⟨_,rfl⟩
   obtain⟨s,hst⟩:∃ s,start k f=s:=⟨_,rfl⟩
   obtain⟨zp,hzp⟩:∃ b,decide (0<at0)=b:=⟨_,rfl⟩
   obtain⟨d,hd⟩:∃ d,dsum k f zp=d:=⟨_,rfl⟩
   obtain⟨mo,hmo⟩:∃ x,most k=x:=⟨_,rfl⟩
   rw[hq] at HB0
   have HB:=Lib.hid HB0
   have CH:Hid (∀ (L':List At) (w:World),St w0 X (L'++L) w->Calls Tryz.prog 78 #[.int .i64 (k:Int)] w fun e w'=>e=.returned (iv q)/\St w0 X (L'++L) w'):=Lib.hid (fun L' w hs=>rHeader_st hs k hkl hq)
   have CHS:Hid (∀ (L':List At) (w:World),St w0 X (L'++L) w->Calls Tryz.prog 76 #[.int .i64 (k:Int),.agg F.toArray] w fun e w'=>e=.returned (iv h)/\St w0 X (L'++L) w'):=Lib.hid (fun L' w hs=>by rw[hF,<-fv_eq];exact rHeaderSum_st hs k f hh)
   have CDS:Hid (∀ (L':List At) (w:World),St w0 X (L'++L) w->Calls Tryz.prog 77 #[.int .i64 (k:Int),.agg F.toArray,.bool zp] w fun e w'=>e=.returned (iv d)/\St w0 X (L'++L) w'):=Lib.hid (fun L' w hs=>by rw[hF,<-fv_eq];exact rDataSum_st hs k f zp hd)
   have CST:Hid (∀ (L':List At) (w:World),St w0 X (L'++L) w->Calls Tryz.prog 79 #[.int .i64 (k:Int),.agg F.toArray] w fun e w'=>e=.returned (iv s)/\St w0 X (L'++L) w'):=Lib.hid (fun L' w hs=>by rw[hF,<-fv_eq];exact rStart_st hs k hkl hb1 hst)
   have HS:=Lib.hid hS
   have i0:(0:Int)<(n:Int):=by omega
   have i1:(1:Int)<(n:Int):=by omega
   have i2:(2:Int)<(n:Int):=by omega
   have i3:(3:Int)<(n:Int):=by omega
   have i8:(8:Int)<=(c:Int):=by omega
   have j0:0<n:=by omega
   have j1:1<n:=by omega
   have j2:2<n:=by omega
   have j3:3<n:=by omega
   have j8:8<=c:=by omega
   have j4:¬ c=4:=by omega
   have e8:decide ((n:Int)<(8:Int))=false:=by simp;omega
   have hql:q<=128:=by rw[<-hq];exact hdr_le k
   have hhle:h<=4:=by rw[<-hh];exact hsum_le k f
   have hdl:d<=4:=by rw[<-hd];exact dsum_le k f zp
   have hmol:mo<=1048576:=by rw[<-hmo];unfold most;split <;> omega
   have Q10:=Lib.hid (show fbadI k fg h f.dd=q10 by rw[<-hh,fbadI_eq hfl,hq10])
   have Q12:=Lib.hid (show lbadI k hl at0 q s mo=q12 by rw[<-hq,<-hst,<-hmo,lbadI_eq,hq12])
   have Q15:=Lib.hid (show tbadI fg at0 tot q h d mo=q15 by rw[<-hq,<-hh,<-hd,<-hzp,<-hmo,tbadI_eq k hfl,hq15])
   have HX:=Lib.hid (show F[1]? = some (.bool f.dd) by rw[hF];rfl)
   obtain⟨dd,hdd⟩:∃ b,f.dd=b:=⟨_,rfl⟩
   rw[hdd] at HX Q10
   have CMO:Hid (∀ (L':List At) (w:World),St w0 X (L'++L) w->Calls Tryz.prog 184 #[.int .i64 (k:Int)] w fun e w'=>e=.returned (iv mo)/\St w0 X (L'++L) w'):=Lib.hid (fun L' w hs=>(rMost_any w k hmo).mono (fun e w' h=>⟨h.1,by rw[h.2];exact hs⟩))
   have s1:=wrapk_add hql hhle
   have s2:=wr1 hatl
   have s3:=wr2 hatl hdl
   have s4:=wr3 hatl hmol
   have s5:=wr4 hatl hmol hdl
   have wk':=wrapk_nat (Nat.lt_trans hkl (by decide:256<4294967296))
   have wf':=wrapk_nat (Nat.lt_trans hfl (by decide:256<4294967296))
   have wh':=wrapk_nat (Nat.lt_trans hhll (by decide:256<4294967296))
   have wa':=wrapk_nat (Nat.lt_trans hatl (by decide:256<4294967296))
   clear hm hb1 hF hn hk hfg hhl hat htot hsl hS HB0 hq10 hq12 hq15 hh hq hst hd hmo hdd
   go_enter Tryz.func151,Tryz.ntmps151
   go_upto_region 5 with (first|((with_reducible refine Se.iL 16 ?_);(refine Se.Ldw hs rfl rfl (Reads.blk 0 rfl) (by rw[FL.out];kernel_rfl) ?_))|((first|with_reducible refine Se.ab hs ?_|with_reducible refine Se.abc hs ?_);clear hs;(first|(generalize w.heap.size=g3;intro w hs)))|(go_at_call 182;refine Calls.mono (CF.out [_] _ hs) ?_;clear hs;rintro e w ⟨rfl,hs⟩))
   refine Ch.region' 19 (fun wx=>Rd wx (some ⟨g,off,none⟩) (bs.map v8)) (fun|14=>true|_=>false) (by kernel_rfl) (by decide +kernel) (HS.out _ (fun a ha=>hs.drew.hold a (by simp[ha]))) ?_;replace hs:=hs.drew;generalize w.drew=w at hs ⊢;change Ch.CW _ _ _ _ _ [0,1,2,3,4,5,6,7,8,9,10,11,12,13,14,15,16,17,18] _ _
   iterate 14 ((first|refine Ch.pA ?_|refine Ch.pE (hv:=fun wx hS=>Se.xL (hc:=(Rd_c hS 0 V0.out))) (h:=?_)|refine Ch.pE (hv:=fun wx hS=>Se.xL (hc:=(Rd_c hS 1 V1.out))) (h:=?_)|refine Ch.pE (hv:=fun wx hS=>Se.xL (hc:=(Rd_c hS 3 V3.out))) (h:=?_));(try simp only[pU]))
   refine Ch.cA (f:=183) (args:=#[.slice (some ⟨g,off+4,none⟩) 4 (c-4)]) (CVL.out [_] _ hs) ?_;clear hs;rintro e w⟨rfl,hs⟩;refine⟨_,rfl,HS.out _ (fun a ha=>hs.hold a (by simp[ha])),?_⟩;(try simp only[pU])
   iterate 4 (refine Ch.pA ?_;(try simp only[pU]))
   refine Ch.done ?_
   try simp only[List.drop_succ_cons,List.drop_zero]
   by_cases hq0:q=0
   ·obtain⟨rfl,rfl⟩:t=0/\e=360:=by have:=HB.out;rw[if_pos hq0] at this;cases this;exact⟨rfl,rfl⟩
    have vq:((q:Int)==0)=true:=by simp;omega
    go_wp2_with (first|(go_at_call 78;refine Calls.mono (CH.out [_] _ hs) ?_;clear hs;rintro e w ⟨rfl,hs⟩))
    go_ret2;exact⟨rfl,hs.drop⟩
   have HB1:=HB.out
   rw[if_neg hq0] at HB1
   replace HB:=Lib.hid HB1
   clear HB1
   have vq:((q:Int)==0)=false:=by simp;omega
   go_upto_region 9 with (first|((with_reducible refine Se.iL 41 ?_);(refine Se.Ldw hs rfl rfl (Reads.blk 0 rfl) (by rw[FL.out];kernel_rfl) ?_))|(go_at_call 78;refine Calls.mono (CH.out [_] _ hs) ?_;clear hs;rintro e w ⟨rfl,hs⟩)|(go_at_call 76;refine Calls.mono (CHS.out [_] _ hs) ?_;clear hs;rintro e w ⟨rfl,hs⟩))
   clear vq;refine Gd.plain 19 (fun wx=>Rd wx (some ⟨g,off,none⟩) (bs.map v8)/\Blk wx g3 F 54) (fun |_=>false) rfl (⟨HS.out _ (fun a ha=>hs.hold a (by simp[ha])),hs.hold (.blk g3 54 F) (by simp)⟩) ?_;change Ch.CW _ _ _ _ _ [0,1,2,3,4,5,6,7,8,9,10,11,12,13,14,15,16,17,18] _ _
   iterate 19 (refine Gd.look (by rfl) ?_;(first|((first|refine Gd.p0 ?_|refine Gd.p1 ?_|refine Gd.b0 ?_|refine Gd.u0 ?_|refine Gd.b1 ?_|refine Gd.u1 ?_);intro _ _)|refine Gd.a0 ?_|refine Gd.a1 ?_);(try simp only[pU]))
   refine Ch.done ?_
   go_upto_region 10 with (fail)
   refine Gd.plain 42 (fun wx=>Rd wx (some ⟨g,off,none⟩) (bs.map v8)/\Blk wx g3 F 54) (fun |_=>false) rfl (⟨HS.out _ (fun a ha=>hs.hold a (by simp[ha])),hs.hold (.blk g3 54 F) (by simp)⟩) ?_;change Ch.CW _ _ _ _ _ [0,1,2,3,4,5,6,7,8,9,10,11,12,13,14,15,16,17,18,19,20,21,22,23,24,25,26,27,28,29,30,31,32,33,34,35,36,37,38,39,40,41] _ _
   iterate 42 (refine Gd.look (by rfl) ?_;(first|refine Gd.l0 (hv:=fun wx hS=>Se.xL (hc:=by rw[(hS.2).cell];first|exact HX.out)) (h:=?_)|refine Gd.l1 (hv:=fun hb0 wx hS=>Se.xL (hc:=by rw[(hS.2).cell];first|exact HX.out) (hx:=by exact Gd.mv_of hb0)) (h:=?_)|refine Gd.l1 (hv:=fun hb0 wx hS=>Se.xL (hc:=by rw[(hS.2).cell];first|exact HX.out)) (h:=?_)|((first|refine Gd.p0 ?_|refine Gd.p1 ?_|refine Gd.b0 ?_|refine Gd.u0 ?_|refine Gd.b1 ?_|refine Gd.u1 ?_);intro _ _)|refine Gd.a0 ?_|refine Gd.a1 ?_);(try simp only[pU]))
   refine Ch.done ?_
   go_upto_region 12 with (fail)
   ·have hb:fbadI k fg h dd=true:=by
     unfold Hid at *
     subst_vars
     first|assumption|(symm;assumption)
    obtain rfl:q10=true:=by rw[<-Q10.out];exact hb
    obtain⟨rfl,rfl⟩:t=0/\e=361:=by have:=HB.out;simpa using this
    go_ret2;exact⟨rfl,hs.drop⟩
   obtain rfl:q10=false:=by
    rw[<-Q10.out];unfold Hid at *
    subst_vars
    first|assumption|(symm;assumption)
   refine Ch.region' 39 (fun wx=>Rd wx (some ⟨g,off,none⟩) (bs.map v8)/\Blk wx g3 F 54) (fun|5=>true|14=>true|23=>true|_=>false) (by kernel_rfl) (by decide +kernel) (⟨HS.out _ (fun a ha=>hs.drew.hold a (by simp[ha])),hs.drew.hold (.blk g3 54 F) (by simp)⟩) ?_;replace hs:=hs.drew;generalize w.drew=w at hs ⊢;change Ch.CW _ _ _ _ _ [0,1,2,3,4,5,6,7,8,9,10,11,12,13,14,15,16,17,18,19,20,21,22,23,24,25,26,27,28,29,30,31,32,33,34,35,36,37,38] _ _
   iterate 5 (refine Gd.look (by rfl) ?_;(first|refine Gd.l0 (hv:=fun wx hS=>Se.xL (hc:=(Rd_c hS.1 2 V2.out))) (h:=?_)|refine Gd.l1 (hv:=fun hb0 wx hS=>Se.xL (hc:=(Rd_c hS.1 2 V2.out))) (h:=?_)|((first|refine Gd.p0 ?_|refine Gd.p1 ?_|refine Gd.b0 ?_|refine Gd.u0 ?_|refine Gd.b1 ?_|refine Gd.u1 ?_);intro _ _)|refine Gd.a0 ?_|refine Gd.a1 ?_);(try simp only[pU]))
   refine Ch.cA (f:=78) (args:=#[.int .i64 (k:Int)]) (CH.out [_] _ hs) ?_;clear hs;rintro e w⟨rfl,hs⟩;refine⟨_,rfl,⟨HS.out _ (fun a ha=>hs.hold a (by simp[ha])),hs.hold (.blk g3 54 F) (by simp)⟩,?_⟩;(try simp only[pU])
   iterate 8 (refine Gd.look (by rfl) ?_;(first|refine Gd.l0 (v:=.agg F.toArray) (hv:=fun wx hS=>Se.xla (by rfl) (by rfl) (Li.Rd.of_blk hS.2) (by rw[FL.out] <;> kernel_rfl) (by kernel_rfl)) (h:=?_)|refine Gd.l1 (v:=.agg F.toArray) (hv:=fun hb0 wx hS=>Se.xla (by rfl) (by rfl) (Li.Rd.of_blk hS.2) (by rw[FL.out] <;> kernel_rfl) (by kernel_rfl)) (h:=?_)|((first|refine Gd.p0 ?_|refine Gd.p1 ?_|refine Gd.b0 ?_|refine Gd.u0 ?_|refine Gd.b1 ?_|refine Gd.u1 ?_);intro _ _)|refine Gd.a0 ?_|refine Gd.a1 ?_);(try simp only[pU]))
   refine Gd.gn (v:=iv s) (by rfl) (by rfl) (by first|exact Gd.want_t rfl rfl rfl|exact Gd.want_f rfl rfl rfl|exact Gd.want_mt rfl rfl rfl|exact Gd.want_mf rfl rfl rfl) hs (fun hb=>?_) (fun w hT=>?_)
   ·(try simp only[Bool.and_eq_true] at hb)
    refine Se.gcall (f:=79) (args:=#[.int .i64 (k:Int),.agg F.toArray]) ?_ ?_
    ·go_simp
    refine Calls.mono (CST.out [_] _ hs) ?_;clear hs;rintro e w⟨rfl,hs⟩;exact⟨_,rfl,rfl,hs⟩
   clear hs
   have hs:=hT
   clear hT;refine⟨⟨HS.out _ (fun a ha=>hs.hold a (by simp[ha])),hs.hold (.blk g3 54 F) (by simp)⟩,?_⟩;(try simp only[pU])
   iterate 8 (refine Gd.look (by rfl) ?_;(first|((first|refine Gd.p0 ?_|refine Gd.p1 ?_|refine Gd.b0 ?_|refine Gd.u0 ?_|refine Gd.b1 ?_|refine Gd.u1 ?_);intro _ _)|refine Gd.a0 ?_|refine Gd.a1 ?_);(try simp only[pU]))
   refine Gd.gn (v:=iv mo) (by rfl) (by rfl) (by first|exact Gd.want_t rfl rfl rfl|exact Gd.want_f rfl rfl rfl|exact Gd.want_mt rfl rfl rfl|exact Gd.want_mf rfl rfl rfl) hs (fun hb=>?_) (fun w hT=>?_)
   ·(try simp only[Bool.and_eq_true] at hb)
    refine Se.gcall (f:=184) (args:=#[.int .i64 (k:Int)]) ?_ ?_
    ·go_simp
    refine Calls.mono (CMO.out [_] _ hs) ?_;clear hs;rintro e w⟨rfl,hs⟩;exact⟨_,rfl,rfl,hs⟩
   clear hs
   have hs:=hT
   clear hT;refine⟨⟨HS.out _ (fun a ha=>hs.hold a (by simp[ha])),hs.hold (.blk g3 54 F) (by simp)⟩,?_⟩;(try simp only[pU])
   iterate 15 (refine Gd.look (by rfl) ?_;(first|((first|refine Gd.p0 ?_|refine Gd.p1 ?_|refine Gd.b0 ?_|refine Gd.u0 ?_|refine Gd.b1 ?_|refine Gd.u1 ?_);intro _ _)|refine Gd.a0 ?_|refine Gd.a1 ?_);(try simp only[pU]))
   refine Ch.done ?_
   try simp only[List.drop_succ_cons,List.drop_zero]
   go_upto_region 14 with (fail)
   ·have hb:lbadI k hl at0 q s mo=true:=by
     unfold Hid at *
     subst_vars
     first|assumption|(symm;assumption)
    obtain rfl:q12=true:=by rw[<-Q12.out];exact hb
    obtain⟨rfl,rfl⟩:t=0/\e=362:=by have:=HB.out;simpa using this
    go_ret2;exact⟨rfl,hs.drop⟩
   obtain rfl:q12=false:=by
    rw[<-Q12.out];unfold Hid at *
    subst_vars
    first|assumption|(symm;assumption)
   go_upto_region 15 with (first|((with_reducible refine Se.iL 140 ?_);(refine Se.Ldw hs rfl rfl (Reads.blk 0 rfl) (by rw[FL.out];kernel_rfl) ?_))|(go_at_call 77;refine Calls.mono (CDS.out [_] _ hs) ?_;clear hs;rintro e w ⟨rfl,hs⟩))
   refine Gd.plain 38 (fun wx=>Rd wx (some ⟨g,off,none⟩) (bs.map v8)/\Blk wx g3 F 54) (fun|10=>true|30=>true|_=>false) rfl (⟨HS.out _ (fun a ha=>hs.hold a (by simp[ha])),hs.hold (.blk g3 54 F) (by simp)⟩) ?_;change Ch.CW _ _ _ _ _ [0,1,2,3,4,5,6,7,8,9,10,11,12,13,14,15,16,17,18,19,20,21,22,23,24,25,26,27,28,29,30,31,32,33,34,35,36,37] _ _
   iterate 10 (refine Gd.look (by rfl) ?_;(first|((first|refine Gd.p0 ?_|refine Gd.p1 ?_|refine Gd.b0 ?_|refine Gd.u0 ?_|refine Gd.b1 ?_|refine Gd.u1 ?_);intro _ _)|refine Gd.a0 ?_|refine Gd.a1 ?_);(try simp only[pU]))
   refine Gd.gn (v:=iv q) (by rfl) (by rfl) (by first|exact Gd.want_t rfl rfl rfl|exact Gd.want_f rfl rfl rfl|exact Gd.want_mt rfl rfl rfl|exact Gd.want_mf rfl rfl rfl) hs (fun hb=>?_) (fun w hT=>?_)
   ·(try simp only[Bool.and_eq_true] at hb)
    refine Se.gcall (f:=78) (args:=#[.int .i64 (k:Int)]) ?_ ?_
    ·go_simp
    refine Calls.mono (CH.out [_] _ hs) ?_;clear hs;rintro e w⟨rfl,hs⟩;exact⟨_,rfl,rfl,hs⟩
   clear hs
   have hs:=hT
   clear hT;refine⟨⟨HS.out _ (fun a ha=>hs.hold a (by simp[ha])),hs.hold (.blk g3 54 F) (by simp)⟩,?_⟩;(try simp only[pU])
   iterate 19 (refine Gd.look (by rfl) ?_;(first|((first|refine Gd.p0 ?_|refine Gd.p1 ?_|refine Gd.b0 ?_|refine Gd.u0 ?_|refine Gd.b1 ?_|refine Gd.u1 ?_);intro _ _)|refine Gd.a0 ?_|refine Gd.a1 ?_);(try simp only[pU]))
   refine Gd.gn (v:=iv mo) (by rfl) (by rfl) (by first|exact Gd.want_t rfl rfl rfl|exact Gd.want_f rfl rfl rfl|exact Gd.want_mt rfl rfl rfl|exact Gd.want_mf rfl rfl rfl) hs (fun hb=>?_) (fun w hT=>?_)
   ·(try simp only[Bool.and_eq_true] at hb)
    refine Se.gcall (f:=184) (args:=#[.int .i64 (k:Int)]) ?_ ?_
    ·go_simp
    refine Calls.mono (CMO.out [_] _ hs) ?_;clear hs;rintro e w⟨rfl,hs⟩;exact⟨_,rfl,rfl,hs⟩
   clear hs
   have hs:=hT
   clear hT;refine⟨⟨HS.out _ (fun a ha=>hs.hold a (by simp[ha])),hs.hold (.blk g3 54 F) (by simp)⟩,?_⟩;(try simp only[pU])
   iterate 7 (refine Gd.look (by rfl) ?_;(first|((first|refine Gd.p0 ?_|refine Gd.p1 ?_|refine Gd.b0 ?_|refine Gd.u0 ?_|refine Gd.b1 ?_|refine Gd.u1 ?_);intro _ _)|refine Gd.a0 ?_|refine Gd.a1 ?_);(try simp only[pU]))
   refine Ch.done ?_
   go_upto_region 17 with (fail)
   ·have hb:tbadI fg at0 tot q h d mo=true:=by
     unfold Hid at *
     subst_vars
     first|assumption|(symm;assumption)
    obtain rfl:q15=true:=by rw[<-Q15.out];exact hb
    obtain⟨rfl,rfl⟩:t=0/\e=362:=by have:=HB.out;simpa using this
    go_ret2;exact⟨rfl,hs.drop⟩
   obtain rfl:q15=false:=by
    rw[<-Q15.out];unfold Hid at *
    subst_vars
    first|assumption|(symm;assumption)
   obtain⟨rfl,rfl⟩:t=tot/\e=0:=by have:=HB.out;simpa using this
   go_wp2_with fail
   go_ret2;exact⟨rfl,hs.drop⟩
end Pd
end Go.Proofs.YtjnllcnknjlmmaaGreat
