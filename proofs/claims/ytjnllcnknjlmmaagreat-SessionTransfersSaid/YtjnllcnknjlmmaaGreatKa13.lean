/- Layer 41. -/
import Derived.Test.YtjnllcnknjlmmaaGreatKa12
set_option linter.unusedSimpArgs false
set_option linter.unusedVariables false
set_option maxRecDepth 100000
set_option maxHeartbeats 4000000
namespace Go.Proofs.YtjnllcnknjlmmaaGreat
open Go Go.RowKit
namespace Sn
open Pd (PDU pc iv)
open Se (St At Reads Cell mp)
open Li (v8 v8_one Rd Blk)
open Bv (n16 n32)
variable {w0 w:World} {X:List Nat} {L:List At}
attribute [local irreducible] Calls
def mnN(a b:Nat):Nat:=min a b
theorem min_nat(ats:Array TypeId)(ty:TypeId)(a b:Nat):Builtin.min_ ats ty #[.int .i64 (a:Int),.int .i64 (b:Int)]=pure (.int .i64 ((mnN a b:Nat):Int)):=by
 unfold mnN
 by_cases h:b<a
 ·have h2:((b:Int)<(a:Int)):=by omega
  rw[show min a b=b by omega];simp[Builtin.min_,Builtin.min2,h2]
 ·have h2:¬ ((b:Int)<(a:Int)):=by omega
  rw[show min a b=a by omega];simp[Builtin.min_,Builtin.min2,h2]
attribute [local irreducible] mnN
attribute [local go_sem] min_nat
theorem txv_len(p:Tx × Th)(h:p.1.en.length=64):(txv p).length=68:=by simp[txv,h]
theorem txv_one(p:Tx × Th):∀ v∈txv p,v.oneCell'=true:=by
 intro v hv;simp only[txv,List.mem_append,List.mem_cons,List.not_mem_nil,or_false] at hv
 rcases hv with hv|rfl|rfl|rfl|rfl
 ·exact v8_one _ v hv
 all_goals rfl
theorem txv_at(p:Tx × Th)(h:p.1.en.length=64):(txv p)[64]? = some (.int .u16 (n16 p.1.tg))/\(txv p)[65]? = some (iv p.1.ln)/\(txv p)[66]? = some (.slice p.2.A p.1.da.length p.2.c)/\(txv p)[67]? = some (iv p.1.nd):=by
 have e:(p.1.en.map v8).length=64:=by rw[List.length_map,h]
 unfold txv;refine⟨?_,?_,?_,?_⟩ <;> (rw[List.getElem?_append_right (by omega),e];rfl)
theorem txv_nd(p:Tx × Th)(n:Nat)(h:p.1.en.length=64):(txv p).set 67 (iv n)=txv ({ p.1 with nd:=n },p.2):=by
 have e:(p.1.en.map v8).length=64:=by rw[List.length_map,h]
 unfold txv;rw[List.set_append_right _ _ (by omega),e]
 rfl
theorem bd_ready(id tg:BitVec 16)(f n:BitVec 32)(w:World):(Instr.build 65 #[(0,.int .u8 9),(4,.int .u16 (n16 id)),(5,.int .u16 (n16 tg)),(6,.int .u32 (n32 f)),(7,.int .u32 (n32 n))]).run Tryz.prog w=.ok (.agg (pc { k:=9#8,id:=id,tg:=tg,of:=f,ln:=n } none 0 0 none 0 0).toArray) w:=by kernel_rfl
theorem n32_nat(a:Nat):IntKind.u32.wrap (a:Int)=n32 (BitVec.ofNat 32 a):=by unfold n32;simp[IntKind.wrap,IntKind.bits,IntKind.signed]
theorem put_tPs(tl:TL)(id:BitVec 16)(p:Tx × Th):Se.putP (tPs tl) (n16 id) (.agg (txv p).toArray)=tPs (putA tl id p):=putP_toP (fun p=>.agg (txv p).toArray) tl id p
theorem ask_st{g:Nat}{s:Ss}{h:Hs}{ro:Option Nat}{tl:TL}(hs:St w0 X (qS g s h::qU ro s h::mp h.gt .u16 (tPs tl)::L) w)(id:BitVec 16)(p:Tx × Th)(he:p.1.en.length=64)(h1:p.1.da.length<=p.1.ln)(h2:p.1.ln<=1048576)(h3:s.c.tr<=1048576)(hb:(askE s id p.1).out.length<=70368744177664) :
  Calls Tryz.prog 156 #[.pointer (some ⟨g,0,none⟩),.int .u16 (n16 id),.agg (txv p).toArray] w fun e w'=>∃ ro' OB' oc',e=.returned (.tuple #[])/\St w0 X (qS g (askE s id p.1) { h with OB:=OB',oc:=oc' }::qU ro' (askE s id p.1) { h with OB:=OB',oc:=oc' }::mp h.gt .u16 (tPs (putA tl id ({ p.1 with nd:=min (p.1.da.length+s.c.tr) p.1.ln },p.2)))::L) w':=by
 obtain⟨SL,hSL⟩:∃ SL,SL=scl s h:=⟨_,rfl⟩
 obtain⟨T,hT⟩:∃ T,T=txv p:=⟨_,rfl⟩
 obtain⟨m,hm⟩:∃ m,m=p.1.da.length:=⟨_,rfl⟩
 obtain⟨ln,hln⟩:∃ n,n=p.1.ln:=⟨_,rfl⟩
 obtain⟨tr,htr⟩:∃ n,n=s.c.tr:=⟨_,rfl⟩
 obtain⟨tg,htg⟩:∃ n,n=p.1.tg:=⟨_,rfl⟩
 obtain⟨mt,hmt⟩:∃ n,n=m+tr:=⟨_,rfl⟩
 obtain⟨nd,hnd⟩:∃ n,n=mnN mt ln:=⟨_,rfl⟩
 have hnd2:nd=min (p.1.da.length+s.c.tr) p.1.ln:=by rw[hnd,hmt,hm,htr,hln];unfold mnN;rfl
 have hlo:m<=nd:=by rw[hnd2,hm];omega
 have hhi:nd<=1048576:=by rw[hnd2];omega
 obtain⟨T2,hT2⟩:∃ T2,T2=T.set 67 (iv nd):=⟨_,rfl⟩
 have TL:=Lib.hid (show T.length=68 by rw[hT];exact txv_len p he)
 have T2L:=Lib.hid (show T2.length=68 by rw[hT2,List.length_set,TL.out])
 have T64:=Lib.hid (show T[64]? = some (.int .u16 (n16 tg)) by rw[hT,htg];exact(txv_at p he).1)
 have T65:=Lib.hid (show T[65]? = some (iv ln) by rw[hT,hln];exact(txv_at p he).2.1)
 have T66:=Lib.hid (show T[66]? = some (.slice p.2.A m p.2.c) by rw[hT,hm];exact(txv_at p he).2.2.1)
 have U64:=Lib.hid (show T2[64]? = some (.int .u16 (n16 tg)) by rw[hT2,List.getElem?_set_ne (by decide)];exact T64.out)
 have U67:=Lib.hid (show T2[67]? = some (iv nd) by rw[hT2,List.getElem?_set_self (by rw[TL.out];decide)])
 have ET:=Lib.hid (show T.set 67 (.int .i64 (nd:Int))=T2 from hT2.symm)
 have ET2:=Lib.hid (show T2=txv ({ p.1 with nd:=min (p.1.da.length+s.c.tr) p.1.ln },p.2) by rw[hT2,hT,txv_nd p nd he,<-hnd2])
 have S5:=Lib.hid (show SL[5]? = some (iv tr) by rw[hSL,htr];rfl)
 have S15:=Lib.hid (show SL[15]? = some (.map (some h.gt)) by rw[hSL];rfl)
 have HA:=n32_nat m
 have HD:IntKind.u32.wrap ((nd:Int)-(m:Int))=n32 (BitVec.ofNat 32 (nd-m)):=by rw[show(nd:Int)-(m:Int)=((nd-m:Nat):Int) by omega];exact n32_nat _
 have W1:IntKind.i64.wrap ((m:Int)+(tr:Int))=(mt:Int):=by rw[IntWalk.i64_in _ (by omega)];omega
 have W2:=IntWalk.i64_in ((nd:Int)-(m:Int)) (by omega)
 obtain⟨q,hq⟩:∃ q:PDU,q={ h:={ k:=9#8,id:=id,tg:=tg,of:=BitVec.ofNat 32 m,ln:=BitVec.ofNat 32 (nd-m) } }:=⟨_,rfl⟩
 have B:=Lib.hid (bd_ready id tg (BitVec.ofNat 32 m) (BitVec.ofNat 32 (nd-m)))
 have HE:=Lib.hid (show sendE { s with tx:=putA s.tx id { p.1 with nd:=min (p.1.da.length+s.c.tr) p.1.ln } } q=askE s id p.1 by rw[hq,htg,hnd2,hm];rfl)
 obtain⟨PV,hPV⟩:∃ PV,PV=pc q.h none 0 0 none 0 0:=⟨_,rfl⟩
 rw[show pc { k:=9#8,id:=id,tg:=tg,of:=BitVec.ofNat 32 m,ln:=BitVec.ofNat 32 (nd-m) } none 0 0 none 0 0=PV by rw[hPV,hq]] at B
 have C1:Hid (∀ (a:At) (b:At) w,St w0 X (a::.blk g 112 SL::qU ro s h::b::L) w->Calls Tryz.prog 93 #[.pointer (some ⟨g,0,none⟩),.agg PV.toArray] w fun e w'=>∃ ro' OB' oc',e=.returned (.tuple #[])/\St w0 X (qS g (askE s id p.1) { h with OB:=OB',oc:=oc' }::qU ro' (askE s id p.1) { h with OB:=OB',oc:=oc' }::a::b::L) w'):=Lib.hid (fun a b w hs=>by
  rw[hPV,<-HE.out];rw[hSL] at hs;refine(send_st (s:={ s with tx:=putA s.tx id { p.1 with nd:=min (p.1.da.length+s.c.tr) p.1.ln } }) (ro:=ro) (L:=a::b::L) (hs.perm ?_) q (by rw[hq];exact Reads.nil) (by rw[hq];exact Reads.nil) (by rw[hq];rfl) (by rw[hq];rfl) (by omega) (by omega) (by rw[HE.out];exact hb));exact(List.Perm.swap _ _ _).trans (List.Perm.cons _ (List.Perm.swap _ _ _)))
 have hs2:St w0 X (.blk g 112 SL::qU ro s h::mp h.gt .u16 (tPs tl)::L) w:=by rw[hSL];exact hs
 rw[<-hT]
 have ND:=Lib.hid hnd
 clear hs hSL hT hm hmt hln htr htg hnd hnd2 hT2 hq hPV he h1 h2 h3 hb HE
 have hs:=hs2
 clear hs2
 go_enter Tryz.func156,Tryz.ntmps156
 go_upto_region 2 with (first|((with_reducible refine Se.iL 8 ?_);(refine Se.Ld hs rfl rfl (Cell.blk 0 rfl T66.out) ?_))|((first|with_reducible refine Se.ab hs ?_|with_reducible refine Se.abc hs ?_);clear hs;(first|(generalize w.heap.size=g5;intro w hs))))
 refine Ch.region' 11 (fun wx=>Blk wx g SL 112/\Blk wx g5 T 180) (fun |_=>false) (by kernel_rfl) (by decide +kernel) (⟨hs.drew.hold (.blk g 112 SL) (by simp),hs.drew.hold (.blk g5 180 T) (by simp)⟩) ?_;replace hs:=hs.drew;generalize w.drew=w at hs ⊢;change Ch.CW _ _ _ _ _ [0,1,2,3,4,5,6,7,8,9,10] _ _
 iterate 11 ((first|refine Ch.pA ?_|refine Ch.pE (hv:=fun wx hS=>Se.xL (hc:=((hS.1.cell _).trans S5.out))) (h:=?_)|refine Ch.pE (hv:=fun wx hS=>Se.xL (hc:=((hS.2.cell _).trans T65.out))) (h:=?_));(try simp only[pU]))
 refine Ch.done ?_
 try simp only[List.drop_succ_cons,List.drop_zero]
 simp only[<-ND.out]
 go_upto_region 3 with (first|((with_reducible refine Se.iN ?_);(refine Se.Soq 0 hs rfl rfl rfl (by rw[TL.out];omega) (ET.out) ?_;clear hs;intro w hs;try simp only[pS] at hs)))
 refine Ch.region' 6 (fun wx=>Blk wx g SL 112/\Blk wx g5 T2 180) (fun |_=>false) (by kernel_rfl) (by decide +kernel) (⟨hs.drew.hold (.blk g 112 SL) (by simp),hs.drew.hold (.blk g5 180 T2) (by simp)⟩) ?_;replace hs:=hs.drew;generalize w.drew=w at hs ⊢;change Ch.CW _ _ _ _ _ [0,1,2,3,4,5] _ _
 iterate 6 ((first|refine Ch.pA ?_|refine Ch.pE (hv:=fun wx hS=>Se.xL (hc:=((hS.1.cell _).trans S15.out))) (h:=?_)|refine Ch.pE (hv:=fun wx hS=>Se.xR (hr:=(Li.Rd.of_blk hS.2)) (hi:=(by rw[T2L.out];kernel_rfl))) (h:=?_));(try simp only[pU]))
 refine Ch.done ?_
 try simp only[List.drop_succ_cons,List.drop_zero]
 go_wp2_with (first|((with_reducible refine Se.iN ?_);((first|refine Se.toL rfl (Se.mup 3 (v:=.agg _) hs (.inr rfl) rfl rfl rfl rfl Tryz.underlying109 Tryz.underlying40 ?_)|refine Se.toL rfl (Se.mup 3 (v:=.int _ _) hs (.inr rfl) rfl rfl rfl rfl Tryz.underlying109 Tryz.underlying40 ?_)|refine Se.toL rfl (Se.mup 3 (v:=.pointer _) hs (.inr rfl) rfl rfl rfl rfl Tryz.underlying109 Tryz.underlying40 ?_)|refine Se.toL rfl (Se.mup 3 (v:=.bool _) hs (.inr rfl) rfl rfl rfl rfl Tryz.underlying109 Tryz.underlying40 ?_));clear hs;intro w hs;try simp only[pS] at hs))|((with_reducible refine Se.iL 30 ?_);(refine Se.Ld hs rfl rfl (Cell.blk 0 rfl U64.out) ?_))|((with_reducible refine Se.iL 34 ?_);(refine Se.Ld hs rfl rfl (Cell.blk 0 rfl U67.out) ?_))|((with_reducible refine Se.iL 38 ?_);(refine Se.Bd rfl rfl (B.out _) ?_))|(go_at_call 93;refine Calls.mono (C1.out _ _ _ hs) ?_;clear hs;rintro e w ⟨ro',OB',oc',rfl,hs⟩))
 refine bodyPost_end (results_none rfl _ _ _) rfl ?_;rw[ET2.out,put_tPs] at hs;refine⟨ro',OB',oc',rfl,?_⟩;exact(hs.perm (((List.Perm.swap _ _ _).trans (List.Perm.cons _ (List.Perm.swap _ _ _)):List.Perm _ _).symm.trans (List.Perm.refl _))).drop
theorem rqv_one(p:Rq × Th):∀ v∈rqv p,v.oneCell'=true:=by
 intro v hv;simp only[rqv,List.mem_append,List.mem_cons,List.not_mem_nil,or_false] at hv
 rcases hv with rfl|hv|rfl|rfl
 ·rfl
 ·exact v8_one _ v hv
 all_goals rfl
theorem rqv_len(p:Rq × Th)(h:p.1.en.length=64):(rqv p).length=67:=by simp[rqv,h]
theorem rqs_snoc(l:List (Rq × Th))(p:Rq × Th):rqs (l++[p])=rqs l++rqv p:=by unfold rqs;simp
theorem put_rPs(l:List (BitVec 16 × Nat))(id:BitVec 16)(n:Nat):Se.putP (rPs l) (n16 id) (iv n)=rPs (putA l id n):=putP_toP (fun n=>iv n) l id n
def plc(P:Program)(t:TypeId):Option (List Value × List (Nat × Nat)) :=
 match P.info? t,P.underlying t with
 | some it,some (.struct fields) =>
  match it.zero,fields.toList.mapM (fun f=>(P.info? f.type).map fun i=>(f.offset,i.size)) with
  | some z,some places=>some (z.cells.toList,places)
  | _,_=>none
 | _,_=>none
theorem run_plc{P:Program}{t:TypeId}{zl:List Value}{places:List (Nat × Nat)}(h:plc P t=some (zl,places)){parts:List (Nat × Value)}{cs:List Value}(hf:Instr.fill (places.toArray[·]?) zl.toArray parts=some cs.toArray)(w:World):(Instr.build t parts.toArray).run P w=.ok (.agg cs.toArray) w:=by
 refine run_build w t parts.toArray cs.toArray ?_;unfold plc at h;unfold Program.built
 cases hi:P.info? t with
 | none=>simp[hi] at h
 | some it =>
  cases hu:P.underlying t with
  | none=>simp[hi,hu] at h
  | some d =>
   cases d <;> try (simp[hi,hu] at h;done)
   rename_i fields;simp only[hi,hu] at h
   cases hz:it.zero with
   | none=>simp[hz] at h
   | some z =>
    cases hm:fields.toList.mapM (fun f=>(P.info? f.type).map fun i=>(f.offset,i.size)) with
    | none=>simp[hz,hm] at h
    | some pl =>
     simp only[hz,hm,Option.some.injEq,Prod.mk.injEq] at h
     obtain⟨h1,h2⟩:=h
     subst h1 h2;simp only[hi,hu,hz,hm];simpa using hf
theorem fill_agg{place:Nat->Option (Nat × Nat)}{cs xs:List Value}{i off size:Nat}{rest:List (Nat × Value)}(hp:place i=some (off,size))(hx:xs.length=size)(hb:off+size<=cs.length) :
  Instr.fill place cs.toArray ((i,.agg xs.toArray)::rest)=Instr.fill place (cs.take off++xs++cs.drop (off+size)).toArray rest:=by
 have e:=Se.foldl_set off xs 0 cs.toArray (by simp;omega)
 rw[Nat.add_zero] at e
 have hc:(Value.agg xs.toArray).cells=xs.toArray:=rfl
 have hn:((Value.agg xs.toArray).cells.size≠size || off+(Value.agg xs.toArray).cells.size > cs.toArray.size)=false:=by rw[hc];simp;omega
 rw[Instr.fill];simp only[hp];rw[hn];simp only[Bool.false_eq_true,if_false,hc]
 congr 1
 have e3:xs.toArray.zipIdx=xs.zipIdx.toArray:=by apply Array.toList_inj.1;simp
 rw[e3,List.foldl_toArray]
 apply Array.toList_inj.1
 rw[hx] at e;simpa using e
theorem fill_one{place:Nat->Option (Nat × Nat)}{cs:List Value}{v:Value}{i off:Nat}{rest:List (Nat × Value)}(hc:v.cells=#[v])(hp:place i=some (off,1))(hb:off<cs.length) :
  Instr.fill place cs.toArray ((i,v)::rest)=Instr.fill place (cs.set off v).toArray rest:=by
 have hn:(v.cells.size≠1 || off+v.cells.size > cs.toArray.size)=false:=by rw[hc];simp;omega
 rw[Instr.fill];simp only[hp];rw[hn];simp only[Bool.false_eq_true,if_false,hc]
 congr 1
 simp
theorem plc_rq:plc Tryz.prog 96=some (Value.int .u16 0::(List.replicate 64 (Value.int .u8 0)++[Value.slice none 0 0,Value.int .i64 0]),[(0,1),(1,64),(65,1),(66,1)]):=by kernel_rfl
theorem bd_rq(z:Int)(B:List Value)(hB:B.length=64)(A:Option Addr)(n c:Nat)(m:Int)(w:World):(Instr.build 96 #[(0,.int .u16 z),(1,.agg B.toArray),(2,.slice A n c),(3,.int .i64 m)]).run Tryz.prog w=.ok (.agg (Value.int .u16 z::(B++[Value.slice A n c,Value.int .i64 m])).toArray) w:=by
 refine run_plc (parts:=[(0,.int .u16 z),(1,.agg B.toArray),(2,.slice A n c),(3,.int .i64 m)]) plc_rq ?_ w;rw[fill_one rfl rfl (by simp),fill_agg rfl hB (by simp),fill_one rfl rfl (by simp[hB]),fill_one rfl rfl (by simp[hB])];simp only[Instr.fill]
 congr 2
 simp only[List.set_cons_zero,List.take_succ_cons,List.take_zero,List.cons_append,List.nil_append,List.drop_succ_cons,List.set_cons_succ,List.cons.injEq,true_and];rw[List.set_append_right _ _ (by omega),List.set_append_right _ _ (by omega),hB]
 rfl
theorem plc_tx:plc Tryz.prog 180=some (List.replicate 64 (Value.int .u8 0)++[Value.int .u16 0,Value.int .i64 0,Value.slice none 0 0,Value.int .i64 0],[(0,64),(64,1),(65,1),(66,1),(67,1)]):=by kernel_rfl
theorem bd_tx(B:List Value)(hB:B.length=64)(z n:Int)(w:World):(Instr.build 180 #[(0,.agg B.toArray),(1,.int .u16 z),(2,.int .i64 n)]).run Tryz.prog w=.ok (.agg (B++[Value.int .u16 z,Value.int .i64 n,Value.slice none 0 0,Value.int .i64 0]).toArray) w:=by
 refine run_plc (parts:=[(0,.agg B.toArray),(1,.int .u16 z),(2,.int .i64 n)]) plc_tx ?_ w;rw[fill_agg rfl hB (by simp),fill_one rfl rfl (by simp[hB]),fill_one rfl rfl (by simp[hB])];simp only[Instr.fill]
 congr 2
 simp only[List.take_zero,List.nil_append];rw[List.set_append_right _ _ (by omega),List.set_append_right _ _ (by omega),hB]
 rfl
theorem rq_i3:(Tryz.prog.info? 96).map (fun i=>(i.zero,i.size,i.bytes))=some (some (.agg (Value.int .u16 0::(List.replicate 64 (Value.int .u8 0)++[Value.slice none 0 0,Value.int .i64 0])).toArray),67,104):=by kernel_rfl
theorem request_st{g:Nat}{s:Ss}{h:Hs}{rq:Option Nat}{rl:List (Rq × Th)}(hs:St w0 X (qS g s h::mp h.gp .u16 (rPs s.rp)::.own 67 rq h.RB s.rd.length h.rc (rqs rl)::L) w)(hrl:s.rd=rqo rl)(hlen:∀ p∈rl,p.1.en.length=64)(hb:s.rd.length<=8388608)(q:Rq)(t:Th)(hq:q.en.length=64) :
  Calls Tryz.prog 158 #[.pointer (some ⟨g,0,none⟩),.int .u16 (n16 q.id),.agg (q.en.map v8).toArray,.slice t.A q.da.length t.c,iv q.rp] w fun e w'=>∃ rq' RB' rc',e=.returned (.tuple #[])/\St w0 X (qS g (requestE s q.id q.en q.da q.rp) { h with RB:=RB',rc:=rc' }::mp h.gp .u16 (rPs (putA s.rp q.id q.rp))::.own 67 rq' RB' (s.rd++[q]).length rc' (rqs (rl++[(q,t)]))::L) w':=by
 obtain⟨SL,hSL⟩:∃ SL,SL=scl s h:=⟨_,rfl⟩
 obtain⟨B,hB⟩:∃ B,B=q.en.map v8:=⟨_,rfl⟩
 obtain⟨m,hm⟩:∃ m,m=s.rd.length:=⟨_,rfl⟩
 obtain⟨R,hR⟩:∃ R,R=rqv (q,t):=⟨_,rfl⟩
 have BL:=Lib.hid (show B.length=64 by rw[hB,List.length_map,hq])
 have RL:=Lib.hid (show R.length=67 by rw[hR];exact rqv_len _ hq)
 have RO:=Lib.hid (show ∀ v∈R,v.oneCell'=true by rw[hR];exact rqv_one _)
 have BD:=Lib.hid (show ∀ w,(Instr.build 96 #[(0,.int .u16 (n16 q.id)),(1,.agg B.toArray),(2,.slice t.A q.da.length t.c),(3,iv q.rp)]).run Tryz.prog w=.ok (.agg R.toArray) w by
  intro w;rw[hR,hB];exact bd_rq (n16 q.id) (q.en.map v8) (by rw[List.length_map,hq]) t.A q.da.length t.c (q.rp:Int) w)
 have S16:=Lib.hid (show SL[16]? = some (.map (some h.gp)) by rw[hSL];rfl)
 have S17:=Lib.hid (show SL[17]? = some (.slice h.RB m h.rc) by rw[hSL,hm];rfl)
 have SLL:=Lib.hid (show SL.length=18 by rw[hSL];rfl)
 have ER:=Lib.hid (show rqs rl++R=rqs (rl++[(q,t)]) by rw[rqs_snoc,hR])
 have EM:=Lib.hid (show(s.rd++[q]).length=m+1 by rw[List.length_append,hm];rfl)
 have ES:=Lib.hid (show ∀ RB' rc',SL.set 17 (.slice RB' (m+1) rc')=scl (requestE s q.id q.en q.da q.rp) { h with RB:=RB',rc:=rc' } by
  intro RB' rc';rw[hSL,hm]
  have e:(requestE s q.id q.en q.da q.rp).rd.length=s.rd.length+1:=by unfold requestE;simp
  unfold scl;rw[e]
  rfl)
 have hmb:m<=8388608:=by rw[hm];exact hb
 have hs2:St w0 X (.blk g 112 SL::mp h.gp .u16 (rPs s.rp)::.own 67 rq h.RB m h.rc (rqs rl)::L) w:=by rw[hSL,hm];exact hs
 rw[EM.out,<-hB];clear hs hSL hB hR hm hrl hlen hb hq
 have hs:=hs2
 clear hs2
 go_enter Tryz.func158,Tryz.ntmps158
 go_upto_region 2 with (first|((with_reducible refine Se.iL 13 ?_);(refine Se.Ld hs rfl rfl (Cell.blk 1 rfl S16.out) ?_))|((with_reducible refine Se.iN ?_);((first|refine Se.toL rfl (Se.mup 2 (v:=.agg _) hs (.inr rfl) rfl rfl rfl rfl Tryz.underlying110 Tryz.underlying40 ?_)|refine Se.toL rfl (Se.mup 2 (v:=.int _ _) hs (.inr rfl) rfl rfl rfl rfl Tryz.underlying110 Tryz.underlying40 ?_)|refine Se.toL rfl (Se.mup 2 (v:=.pointer _) hs (.inr rfl) rfl rfl rfl rfl Tryz.underlying110 Tryz.underlying40 ?_)|refine Se.toL rfl (Se.mup 2 (v:=.bool _) hs (.inr rfl) rfl rfl rfl rfl Tryz.underlying110 Tryz.underlying40 ?_));clear hs;intro w hs;try simp only[pS] at hs))|((first|with_reducible refine Se.ab hs ?_|with_reducible refine Se.abc hs ?_);clear hs;(first|(generalize w.heap.size=g7;intro w hs))))
 rw[put_rPs] at hs;refine Ch.region' 14 (fun wx=>Blk wx g SL 112/\Blk wx g7 B 37) (fun|10=>true|11=>true|_=>false) (by kernel_rfl) (by decide +kernel) (⟨hs.drew.hold (.blk g 112 SL) (by simp),hs.drew.hold (.blk g7 37 B) (by simp)⟩) ?_;replace hs:=hs.drew;generalize w.drew=w at hs ⊢;change Ch.CW _ _ _ _ _ [0,1,2,3,4,5,6,7,8,9,10,11,12,13] _ _
 iterate 9 ((first|refine Ch.pA ?_|refine Ch.pE (hv:=fun wx hS=>Se.xL (hc:=((hS.1.cell _).trans S17.out))) (h:=?_)|refine Ch.pE (hv:=fun wx hS=>Se.xR (hr:=(Li.Rd.of_blk hS.2)) (hi:=(by rw[BL.out];kernel_rfl))) (h:=?_));(try simp only[pU]))
 refine Ch.pE (v:=.agg R.toArray) (hv:=fun wx hS=>Pd.xbd rfl (vs:=[(0,.int .u16 (n16 q.id)),(1,.agg B.toArray),(2,.slice t.A q.da.length t.c),(3,iv q.rp)]) rfl (BD.out _)) (h:=?_);(try simp only[pU]);refine Ch.nA (h:=Se.bs1 hs rfl Tryz.underlying86 rq_i3 (by decide) (by decide) rfl RL.out ?_);clear hs;rintro w g26-hs;refine⟨⟨hs.hold (.blk g 112 SL) (by simp),hs.hold (.blk g7 37 B) (by simp)⟩,?_⟩;(try simp only[pU]);refine Ch.nA (h:=Se.ap 4 hs rfl rfl rfl rfl (Reads.blk 0 rfl) Tryz.underlying86 rq_i3 rfl (by decide) RO.out (by rw[RL.out]) (by omega) (by omega) ?_);clear hs;rintro w rq' RB' rc' hs;simp only[pS] at hs;refine⟨⟨hs.hold (.blk g 112 SL) (by simp),hs.hold (.blk g7 37 B) (by simp)⟩,?_⟩;(try simp only[pU])
 iterate 2 (refine Ch.pA ?_;(try simp only[pU]))
 refine Ch.done ?_
 try simp only[List.drop_succ_cons,List.drop_zero]
 go_wp2_with (first|((with_reducible refine Se.iN ?_);(refine Se.Soq 2 hs rfl rfl rfl (by rw[SLL.out];omega) (rfl) ?_;clear hs;intro w hs;try simp only[pS] at hs)))
 refine bodyPost_end (results_none rfl _ _ _) rfl ?_;rw[ES.out,ER.out] at hs;exact⟨rfl,rq',RB',rc',hs.drop.drop⟩
end Sn
end Go.Proofs.YtjnllcnknjlmmaaGreat
namespace Go.Proofs.YtjnllcnknjlmmaaGreat
open Go Go.RowKit
namespace Sn
open Pd (PDU pc iv fl)
open Se (St At Reads Cell mp mit)
open Li (Rd Blk)
open Bv (n8 n16 n32)
variable {w0 w:World} {X:List Nat} {L:List At}
attribute [local irreducible] Calls
def usedB(tl:TL)(t:BitVec 16):Bool:=tl.any fun x=>x.2.1.tg==t
theorem used_txs(tl:TL)(t:BitVec 16):(txs tl).any (fun p=>p.2.tg==t)=usedB tl t:=any_mapA (fun p:Tx × Th=>p.1) (fun x:Tx=>x.tg==t) tl
theorem mem_tPs{tl:TL}{p:Int × Value}(h:p∈tPs tl):∃ x∈tl,p=(n16 x.1,.agg (txv x.2).toArray):=by
 unfold tPs toP at h
 obtain⟨x,hx,rfl⟩:=List.mem_map.1 h
 exact⟨x,hx,rfl⟩
theorem del_tPs(tl:TL)(k:BitVec 16):Se.delP (tPs tl) (n16 k)=tPs (delA tl k):=delP_toP _ tl k
theorem del_lt{α:Type}{l:List (BitVec 16 × α)}{x:BitVec 16 × α}(h:x∈l):(delA l x.1).length<l.length:=by
 unfold delA;exact List.length_filter_lt_length_iff_exists.2 ⟨x,h,by simp⟩
theorem del_any{tl rl:TL}{x:BitVec 16 × Tx × Th}{t:BitVec 16}(hn:(tl.map (·.1)).Nodup)(hs:∀ y∈rl,y∈tl)(hx:x∈rl)(ht:(x.2.1.tg==t)=false):usedB (delA rl x.1) t=usedB rl t:=by
 unfold usedB delA;rw[List.any_filter];refine Bool.eq_iff_iff.2 ⟨fun h=>?_,fun h=>?_⟩
 ·obtain⟨y,hy,hq⟩:=List.any_eq_true.1 h
  simp only[Bool.and_eq_true] at hq;exact List.any_eq_true.2 ⟨y,hy,hq.2⟩
 ·obtain⟨y,hy,hq⟩:=List.any_eq_true.1 h
  refine List.any_eq_true.2 ⟨y,hy,?_⟩;simp only[Bool.and_eq_true,hq,and_true,Bool.not_eq_true',beq_eq_false_iff_ne];intro e
  have:y=x:=by
   obtain⟨i,hi,rfl⟩:=List.mem_iff_getElem.1 (hs y hy)
   obtain⟨j,hj,rfl⟩:=List.mem_iff_getElem.1 (hs x hx)
   have hij:=(List.getElem_inj (i:=i) (j:=j) (h₀:=by simpa using hi) (h₁:=by simpa using hj) hn).1 (by simpa using e)
   subst hij
   rfl
  subst this;rw[ht] at hq
  cases hq
theorem tx_z:(Tryz.prog.info? 180).bind (fun i=>i.zero.map (·.cells.toList))=some (List.replicate 64 (Value.int .u8 0)++[Value.int .u16 0,Value.int .i64 0,Value.slice none 0 0,Value.int .i64 0]):=by kernel_rfl
theorem used_st{g gb:Nat}{s:Ss}{h:Hs}{tl:TL}(hs:St w0 X (.blk gb 83 [.pointer (some ⟨g,0,none⟩)]::qS g s h::mp h.gt .u16 (tPs tl)::L) w)(hen:∀ x∈tl,x.2.1.en.length=64)(t:BitVec 16) :
  Calls Tryz.prog 189 #[.int .u16 (n16 t),.pointer (some ⟨gb,0,none⟩)] w fun e w'=>e=.returned (.bool (usedB tl t))/\St w0 X (.blk gb 83 [.pointer (some ⟨g,0,none⟩)]::qS g s h::mp h.gt .u16 (tPs tl)::L) w':=by
 obtain⟨SL,hSL⟩:∃ SL,SL=scl s h:=⟨_,rfl⟩
 have hnd:(tl.map (·.1)).Nodup:=nodup_toP (f:=fun p=>.agg (txv p).toArray) (Se.MP.nodup (hs.hold (mp h.gt .u16 (tPs tl)) (by simp)))
 have S15:=Lib.hid (show SL[15]? = some (.map (some h.gt)) by rw[hSL];rfl)
 have HS:=Lib.hid hSL
 have HEN:=Lib.hid hen
 have HND:=Lib.hid hnd
 have hs2:St w0 X (mp h.gt .u16 (tPs tl)::.blk gb 83 [.pointer (some ⟨g,0,none⟩)]::.blk g 112 SL::L) w:=by
  rw[hSL];exact(hs.perm ((List.Perm.cons _ (List.Perm.swap _ _ _)).trans (List.Perm.swap _ _ _)))
 have K:Hid (∀ w',St w0 X (mp h.gt .u16 (tPs tl)::.blk gb 83 [.pointer (some ⟨g,0,none⟩)]::.blk g 112 SL::L) w'->St w0 X (.blk gb 83 [.pointer (some ⟨g,0,none⟩)]::qS g s h::mp h.gt .u16 (tPs tl)::L) w'):=Lib.hid (fun w' hs=>by
  rw[hSL] at hs;exact(hs.perm ((List.Perm.swap _ _ _).trans (List.Perm.cons _ (List.Perm.swap _ _ _)))))
 obtain⟨E,hE⟩:∃ E,E=usedB tl t:=⟨_,rfl⟩
 have HE:=Lib.hid hE
 rw[<-hE];clear hs hSL hE hen hnd
 have hs:=hs2
 clear hs2
 go_enter Tryz.func189,Tryz.ntmps189
 go_wp2_with (first|((with_reducible refine Se.iL 6 ?_);(refine Se.Ld hs rfl rfl (Cell.blk 1 rfl rfl) ?_))|((with_reducible refine Se.iL 9 ?_);(refine Se.Ld hs rfl rfl (Cell.blk 2 rfl S15.out) ?_))|((with_reducible refine Se.iL 10 ?_);(refine Se.toL rfl (Se.mrg (o:=⟨some 10,_,_,_,_,_⟩) 0 hs rfl rfl rfl Tryz.underlying109 ?_);clear hs;rintro w gi hs;try simp only[pS] at hs)))
 (try simp only[pU])
 go_loopg [3] (0+tl.length) (fun gh s3 wr=>∃ (rl:TL) (cur:Option (Int × Value)),gh=0+rl.length/\s3=.bool false/\Hid (∀ y∈rl,y∈tl)/\Hid (usedB rl t=E)/\St w0 X (mit gi h.gt .u16 (tPs tl) (tPs rl) cur::.blk gb 83 [.pointer (some ⟨g,0,none⟩)]::.blk g 112 SL::L) wr)
 case atStart=>exact⟨tl,none,rfl,rfl,Lib.hid (fun _ h=>h),Lib.hid HE.out.symm,hs⟩
 case round =>
  clear hs
  rename World=>w
  obtain⟨rl,cur,rfl,rfl,HSub,HU,hs⟩:=hrel
  by_cases hz:rl=[]
  ·subst hz
   have HF:=Lib.hid (show E=false from HU.out.symm)
   go_wp2_with (first|((with_reducible refine Se.iL 11 ?_);(refine Se.toL rfl (Se.mnx 0 hs rfl rfl rfl (fun _=>?_) (fun p hp=>by cases hp)))))
   go_ret;exact⟨by rw[HF.out];rfl,K.out _ (Se.mit_mp hs)⟩
  ·have HNE:=Lib.hid (show tPs rl≠[] by simpa [tPs,toP] using hz)
   clear hz
   go_upto_region 4 with (first|((with_reducible refine Se.iL 5 ?_);(refine Se.Al hs rfl (tx_z) ?_;clear hs;rintro w g5-hs))|((with_reducible refine Se.iN ?_);(refine Se.Sow 0 hs rfl rfl rfl rfl (TVO.out) (by rw[TVL.out];kernel_rfl) (by rw[TVL.out];rfl) ?_;clear hs;intro w hs;try simp only[pS] at hs))|((with_reducible refine Se.iL 11 ?_);(refine Se.toL rfl (Se.mnx 0 hs rfl rfl rfl (fun hz=>absurd hz HNE.out) ?_));clear hs;intro p hp hpl w hs;obtain⟨x,hx,rfl⟩:=mem_tPs hp;clear hp hpl;(try simp only[pS] at hs);have HX:=Lib.hid hx;clear hx;obtain⟨TV,hTV⟩:∃ TV,TV=txv x.2:=⟨_,rfl⟩;rw[<-hTV] at hs ⊢;have HTV:=Lib.hid hTV;clear hTV;have TVL:=Lib.hid (show TV.length=68 by rw[HTV.out];exact txv_len _ (HEN.out _ (HSub.out _ HX.out)));have TVO:=Lib.hid (show ∀ v∈TV,v.oneCell'=true by rw[HTV.out];exact txv_one _);have TV64:=Lib.hid (show TV[64]? = some (.int .u16 (n16 x.2.1.tg)) by rw[HTV.out];exact(txv_at _ (HEN.out _ (HSub.out _ HX.out))).1))|((with_reducible refine Se.iL 13 ?_);(refine Se.toL rfl (Se.men hs rfl rfl List.mem_cons_self ?_))))
   rw[del_tPs] at hs
   obtain⟨tg,htg⟩:∃ tg,tg=x.2.1.tg:=⟨_,rfl⟩
   rw[<-htg] at TV64
   have HTG:=Lib.hid htg
   clear htg
   by_cases ht:tg=t
   ·subst ht
    have HF:=Lib.hid (show E=true by rw[<-HU.out];exact List.any_eq_true.2 ⟨x,HX.out,by rw[HTG.out];simp⟩)
    go_wp2_with (first|((with_reducible refine Se.iL 16 ?_);(refine Se.Ld hs rfl rfl (Cell.blk 0 rfl TV64.out) ?_)))
    go_ret;exact⟨by rw[HF.out];rfl,K.out _ (Se.mit_mp hs.drop)⟩
   ·have ht2:n16 tg≠n16 t:=fun e=>ht (Bv.n16_inj e)
    have HX2:=Lib.hid (show(delA rl x.1).length<rl.length from del_lt HX.out)
    have HU2:=Lib.hid (show usedB (delA rl x.1) t=E by rw[del_any HND.out HSub.out HX.out (by rw[<-HTG.out];simpa using ht)];exact HU.out)
    have HSub2:=Lib.hid (show ∀ y∈delA rl x.1,y∈tl from fun y hy=>HSub.out y (List.mem_filter.1 hy).1)
    clear ht
    go_wp2_with (first|((with_reducible refine Se.iL 16 ?_);(refine Se.Ld hs rfl rfl (Cell.blk 0 rfl TV64.out) ?_)))
    go_roundg (0+(delA rl x.1).length)
    case measure=>have:=HX2.out;omega
    case rel=>exact⟨delA rl x.1,_,rfl,rfl,HSub2,HU2,hs.drop⟩
theorem subs_len{α:Type}[BEq α][LawfulBEq α]:∀ {a b:List α},a.Nodup->(∀ x∈a,x∈b)->a.length<=b.length
 | [],_,_,_=>Nat.zero_le _
 | x::a,b,hn,h=>by
  have hx:=h x List.mem_cons_self
  have hn2:=List.nodup_cons.1 hn
  have ih:=subs_len (a:=a) (b:=b.erase x) hn2.2 (fun y hy=>(List.mem_erase_of_ne (fun e=>hn2.1 (by rw[<-e];exact hy))).2 (h y (List.mem_cons_of_mem _ hy)))
  rw[List.length_erase_of_mem hx] at ih
  have:=List.length_pos_of_mem hx
  simp only[List.length_cons];omega
theorem tags_len{tl:TL}{m:Nat}(hm:m<=65536)(h:∀ i,i<m->usedB tl (BitVec.ofNat 16 i)=true):m<=tl.length:=by
 have h1:((List.range m).map (BitVec.ofNat 16)).Nodup:=by
  unfold List.Nodup;rw[List.pairwise_map];refine List.Pairwise.imp_of_mem ?_ List.nodup_range;intro a b ha hb hne e
  have h2:=congrArg BitVec.toNat e
  simp only[BitVec.toNat_ofNat] at h2
  have ha2:=List.mem_range.1 ha
  have hb2:=List.mem_range.1 hb
  omega
 have h2:=subs_len h1 (b:=tl.map fun x=>x.2.1.tg) (fun x hx=>by
  obtain⟨i,hi,rfl⟩:=List.mem_map.1 hx
  obtain⟨y,hy,hq⟩:=List.any_eq_true.1 (h i (List.mem_range.1 hi))
  exact List.mem_map.2 ⟨y,hy,by simpa using hq⟩)
 simpa using h2
theorem tag_st{g:Nat}{s:Ss}{h:Hs}{tl:TL}(hs:St w0 X (qS g s h::mp h.gt .u16 (tPs tl)::L) w)(hen:∀ x∈tl,x.2.1.en.length=64)(hl:tl.length<=60000) :
  Calls Tryz.prog 157 #[.pointer (some ⟨g,0,none⟩)] w fun e w'=>e=.returned (.int .u16 (n16 (tagE (txs tl) ((txs tl).length+1) 0#16)))/\St w0 X (qS g s h::mp h.gt .u16 (tPs tl)::L) w':=by
 obtain⟨E,hE⟩:∃ E,E=tagE (txs tl) ((txs tl).length+1) 0#16:=⟨_,rfl⟩
 have HE:=Lib.hid (show tagE (txs tl) (tl.length+1) (BitVec.ofNat 16 0)=E by rw[hE,show(txs tl).length=tl.length from len_mapA _ tl])
 have HEN:=Lib.hid hen
 rw[<-hE];clear hE hen
 go_enter Tryz.func157,Tryz.ntmps157
 go_upto_region 2 with (first|((with_reducible refine Se.iL 1 ?_);(refine Se.toL rfl (Se.bx hs rfl rfl (l:=[.pointer (some ⟨g,0,none⟩)]) rfl ?_);clear hs;rintro w g1-hs))|((first|with_reducible refine Se.ab hs ?_|with_reducible refine Se.abc hs ?_);clear hs;(first|(generalize w.heap.size=g1;intro w hs))))
 go_loopg [2] (tl.length+1) (fun gh s2 wr=>∃ (i:Nat),gh=tl.length+1-i/\i<=tl.length/\s2=.int .u16 (n16 (BitVec.ofNat 16 i))/\Hid (∀ j,j<i->usedB tl (BitVec.ofNat 16 j)=true)/\Hid (tagE (txs tl) (tl.length+1-i) (BitVec.ofNat 16 i)=E)/\St w0 X (.blk g1 83 [.pointer (some ⟨g,0,none⟩)]::qS g s h::mp h.gt .u16 (tPs tl)::L) wr)
 case atStart=>exact⟨0,rfl,Nat.zero_le _,rfl,Lib.hid (fun j hj=>absurd hj (Nat.not_lt_zero _)),HE,hs⟩
 case round =>
  clear hs HE
  rename World=>w
  obtain⟨i,rfl,hi,rfl,HU,HE,hs⟩:=hrel
  obtain⟨b,hb⟩:∃ b,b=usedB tl (BitVec.ofNat 16 i):=⟨_,rfl⟩
  have CU:Hid (∀ w,St w0 X (.blk g1 83 [.pointer (some ⟨g,0,none⟩)]::qS g s h::mp h.gt .u16 (tPs tl)::L) w->Calls Tryz.prog 189 #[.int .u16 (n16 (BitVec.ofNat 16 i)),.pointer (some ⟨g1,0,none⟩)] w fun e w'=>e=.returned (.bool b)/\St w0 X (.blk g1 83 [.pointer (some ⟨g,0,none⟩)]::qS g s h::mp h.gt .u16 (tPs tl)::L) w'):=Lib.hid (fun w hs=>by rw[hb];exact used_st hs HEN.out _)
  have HE2:=HE.out
  rw[show tl.length+1-i=(tl.length-i)+1 by omega] at HE2;unfold tagE at HE2;rw[used_txs,<-hb] at HE2
  have HB:=Lib.hid hb
  obtain⟨ti,hti⟩:∃ ti,ti=BitVec.ofNat 16 i:=⟨_,rfl⟩
  rw[<-hti] at CU HE2 HB ⊢
  have HTI:=Lib.hid hti
  clear HE hb hti
  cases b with
  | true =>
   have hlt:i+1<=tl.length:=tags_len (by omega) (fun j hj=>by
    rcases Nat.lt_succ_iff_lt_or_eq.1 hj with hj|rfl
    ·exact HU.out j hj
    ·rw[<-HTI.out];exact HB.out.symm)
   have HE3:=Lib.hid (show tagE (txs tl) (tl.length+1-(i+1)) (BitVec.ofNat 16 (i+1))=E by
    rw[if_pos rfl,HTI.out] at HE2;rw[show tl.length+1-(i+1)=tl.length-i by omega,<-HE2]
    congr 1
    apply BitVec.eq_of_toNat_eq
    simp)
   have HU3:=Lib.hid (show ∀ j,j<i+1->usedB tl (BitVec.ofNat 16 j)=true from fun j hj=>by
    rcases Nat.lt_succ_iff_lt_or_eq.1 hj with hj|rfl
    ·exact HU.out j hj
    ·rw[<-HTI.out];exact HB.out.symm)
   have HT2:IntKind.u16.wrap (n16 ti+1)=n16 (BitVec.ofNat 16 (i+1)):=by rw[HTI.out,Bv.wrap_n16_of];congr 1;apply BitVec.eq_of_toNat_eq;simp[n16];omega
   clear HE2 HB HU
   go_wp2_with (first|(go_at_call 189;refine Calls.mono (CU.out _ hs) ?_;clear hs;rintro e w ⟨rfl,hs⟩))
   go_roundg (tl.length+1-(i+1))
   case measure=>omega
   case rel=>exact⟨i+1,rfl,hlt,by first|rfl|rw[HT2],HU3,HE3,hs⟩
  | false =>
   have HF:=Lib.hid (show ti=E by rw[if_neg (by decide)] at HE2;exact HE2)
   clear HE2 HB HU
   go_wp2_with (first|(go_at_call 189;refine Calls.mono (CU.out _ hs) ?_;clear hs;rintro e w ⟨rfl,hs⟩))
   go_ret;exact⟨by rw[HF.out];rfl,hs.drop⟩
theorem n8_nat(a:Nat):IntKind.u8.wrap (a:Int)=n8 (BitVec.ofNat 8 a):=by unfold n8;simp[IntKind.wrap,IntKind.bits,IntKind.signed]
theorem bd_init(al d:BitVec 8)(mx:BitVec 32)(w:World):(Instr.build 65 #[(0,.int .u8 1),(8,.int .u8 (n8 al)),(9,.int .u8 (n8 d)),(10,.int .u32 (n32 mx))]).run Tryz.prog w=.ok (.agg (pc { k:=1#8,al:=al,dg:=d,mx:=mx } none 0 0 none 0 0).toArray) w:=by kernel_rfl
theorem fm_z:(Tryz.prog.info? 54).bind (fun i=>i.zero.map (·.cells.toList))=some [.bool false,.bool false,.int .i64 0]:=by kernel_rfl
theorem n8_nz(x:BitVec 8):(n8 x != 0)=decide (x≠0#8):=by
 by_cases h:x=0#8
 ·subst h;rfl
 ·have:n8 x≠0:=fun e=>h (Bv.n8_inj e)
  simp[h,this]
attribute [local go_sem ↓] Bv.and_n8 Bv.or_n8
attribute [local go_sem] Bv.of_n8
theorem open_st{g rc:Nat}{rB:Option Addr}{rr:Option Nat}{s:Ss}{h:Hs}{ro:Option Nat}(hs:St w0 X (qS g s h::qU ro s h::Sr.pR h.gr s.r rB rc::Sr.pO rr rB rc s.r::L) w)(hmo:s.r.mo≠0)(p:PDU){EA DA:Option Addr}{en ec dn dc:Nat}(hb:(openE s p).out.length<=70368744177664) :
  Calls Tryz.prog 118 #[.pointer (some ⟨g,0,none⟩),.agg (pc p.h EA en ec DA dn dc).toArray] w fun e w'=>∃ ro' OB' oc',e=.returned (.tuple #[])/\St w0 X (qS g (openE s p) { h with OB:=OB',oc:=oc' }::qU ro' (openE s p) { h with OB:=OB',oc:=oc' }::Sr.pR h.gr (openE s p).r rB rc::Sr.pO rr rB rc (openE s p).r::L) w':=by
 obtain⟨SL,hSL⟩:∃ SL,SL=scl s h:=⟨_,rfl⟩
 obtain⟨PL,hPL⟩:∃ PL,PL=pc p.h EA en ec DA dn dc:=⟨_,rfl⟩
 obtain⟨hd,hhd⟩:∃ b,b=s.c.hd:=⟨_,rfl⟩
 obtain⟨dd,hdd⟩:∃ b,b=s.c.dd:=⟨_,rfl⟩
 obtain⟨al,hal⟩:∃ b,b=s.c.al:=⟨_,rfl⟩
 obtain⟨md,hmd⟩:∃ b,b=s.c.md:=⟨_,rfl⟩
 obtain⟨pd,hpd⟩:∃ b,b=p.h.dg:=⟨_,rfl⟩
 obtain⟨pa,hpa⟩:∃ b,b=p.h.al:=⟨_,rfl⟩
 obtain⟨d1,hd1⟩:∃ d,d=(if hd then pd&&&1#8 else 0#8):=⟨_,rfl⟩
 obtain⟨d2,hd2⟩:∃ d,d=d1|||(if dd then pd&&&2#8 else 0#8):=⟨_,rfl⟩
 have D1:=Lib.hid hd1
 have D2:=Lib.hid hd2
 have hdig:digE s.c p.h.dg=d2:=by rw[hd2,hd1,hhd,hdd,hpd];rfl
 obtain⟨fm,hfm⟩:∃ f,f=fmE d2 pa.toNat:=⟨_,rfl⟩
 obtain⟨fm2,hfm2⟩:∃ f,f=fmE d2 al:=⟨_,rfl⟩
 obtain⟨F,hF⟩:∃ F,F=fl fm:=⟨_,rfl⟩
 obtain⟨F2,hF2⟩:∃ F,F=fl fm2:=⟨_,rfl⟩
 have FL:=Lib.hid (show F.length=3 by rw[hF];rfl)
 have F2L:=Lib.hid (show F2.length=3 by rw[hF2];rfl)
 have FO:=Lib.hid (show ∀ v∈F,v.oneCell'=true by rw[hF];simp[fl,Value.oneCell'])
 have F12:=Lib.hid (show F.set 2 (.int .i64 (al:Int))=F2 by rw[hF,hF2,hfm,hfm2];rfl)
 obtain⟨b1,hb1⟩:∃ b,b=decide (d2&&&1#8≠0#8):=⟨_,rfl⟩
 obtain⟨b2,hb2⟩:∃ b,b=decide (d2&&&2#8≠0#8):=⟨_,rfl⟩
 have NA:IntKind.i64.wrap (n8 pa)=n8 pa:=IntWalk.i64_in _ (by have:=Bv.n8_lo pa;have:=Bv.n8_hi pa;omega)
 have N1:(n8 (d2&&&1#8) != 0)=b1:=by rw[hb1];exact n8_nz _
 have N2:(n8 (d2&&&2#8) != 0)=b2:=by rw[hb2];exact n8_nz _
 have BF:=Lib.hid (show ∀ w,(Instr.build 54 #[(0,.bool b1),(1,.bool b2),(2,.int .i64 (n8 pa))]).run Tryz.prog w=.ok (.agg F.toArray) w by
  intro w;rw[show F=[.bool b1,.bool b2,.int .i64 (n8 pa)] by rw[hF,hfm,hb1,hb2];rfl];kernel_rfl)
 obtain⟨q,hq⟩:∃ q:PDU,q={ h:={ k:=1#8,al:=BitVec.ofNat 8 al,dg:=d2,mx:=BitVec.ofNat 32 md } }:=⟨_,rfl⟩
 obtain⟨PV,hPV⟩:∃ PV,PV=pc q.h none 0 0 none 0 0:=⟨_,rfl⟩
 have B:=Lib.hid (bd_init (BitVec.ofNat 8 al) d2 (BitVec.ofNat 32 md))
 rw[show pc { k:=1#8,al:=BitVec.ofNat 8 al,dg:=d2,mx:=BitVec.ofNat 32 md } none 0 0 none 0 0=PV by rw[hPV,hq]] at B
 obtain⟨r2,er,hr2⟩:∃ r2 er,Sr.refE s.r fm2=(r2,er):=⟨_,_,rfl⟩
 have HO:=Lib.hid (show openE s p={ sendE s q with f:=fm,r:=r2,st:=2 } by
  unfold openE;rw[hdig,<-hal,<-hmd,<-hpa,<-hq,<-hfm,<-hfm2,hr2])
 have S0:=Lib.hid (show SL[0]? = some (.bool hd) by rw[hSL,hhd];rfl)
 have S1:=Lib.hid (show SL[1]? = some (.bool dd) by rw[hSL,hdd];rfl)
 have S2:=Lib.hid (show SL[2]? = some (iv al) by rw[hSL,hal];rfl)
 have S4:=Lib.hid (show SL[4]? = some (iv md) by rw[hSL,hmd];rfl)
 have P8:=Lib.hid (show PL[8]? = some (.int .u8 (n8 pa)) by rw[hPL,hpa];rfl)
 have P9:=Lib.hid (show PL[9]? = some (.int .u8 (n8 pd)) by rw[hPL,hpd];rfl)
 have PLL:=Lib.hid (show PL.length=14 by rw[hPL];rfl)
 have hbq:(sendE s q).out.length<=70368744177664:=by rw[HO.out] at hb;exact hb
 have C1:Hid (∀ (a:At) (w:World),St w0 X (a::.blk g 112 SL::qU ro s h::Sr.pR h.gr s.r rB rc::Sr.pO rr rB rc s.r::L) w->Calls Tryz.prog 93 #[.pointer (some ⟨g,0,none⟩),.agg PV.toArray] w fun e w'=>∃ ro' OB' oc' SL1,e=.returned (.tuple #[])/\Hid (SL1=scl (sendE s q) { h with OB:=OB',oc:=oc' })/\Hid (SL1[2]? = some (iv al))/\St w0 X (.blk g 112 SL1::qU ro' (sendE s q) { h with OB:=OB',oc:=oc' }::a::Sr.pR h.gr s.r rB rc::Sr.pO rr rB rc s.r::L) w'):=Lib.hid (fun a w hs=>by
  rw[hPV];rw[hSL] at hs;refine(send_st (s:=s) (h:=h) (ro:=ro) (L:=a::Sr.pR h.gr s.r rB rc::Sr.pO rr rB rc s.r::L) (hs.perm ?_) q (by rw[hq];exact Reads.nil) (by rw[hq];exact Reads.nil) (by rw[hq];rfl) (by rw[hq];rfl) (by omega) (by omega) hbq).mono ?_
  ·exact(List.Perm.swap _ _ _).trans (List.Perm.cons _ (List.Perm.swap _ _ _))
  ·rintro e w' ⟨ro',OB',oc',h1,h2⟩
   exact⟨ro',OB',oc',_,h1,Lib.hid rfl,Lib.hid (by rw[hal];rfl),h2⟩)
 have CR:Hid (∀ (M:List At) (w:World),St w0 X (M++Sr.pR h.gr s.r rB rc::Sr.pO rr rB rc s.r::L) w->Calls Tryz.prog 140 #[.pointer (some ⟨h.gr,0,none⟩),.agg F2.toArray] w fun e' w'=>e'=.returned (iv er)/\St w0 X (M++Sr.pR h.gr r2 rB rc::Sr.pO rr rB rc r2::L) w'):=Lib.hid (fun M w hs=>by
  rw[hF2]
  have e1:(M++Sr.pR h.gr s.r rB rc::Sr.pO rr rB rc s.r::L).Perm (Sr.pR h.gr s.r rB rc::(M++Sr.pO rr rB rc s.r::L)):=List.perm_middle
  have e2:(M++Sr.pR h.gr r2 rB rc::Sr.pO rr rB rc s.r::L).Perm (Sr.pR h.gr r2 rB rc::(M++Sr.pO rr rB rc s.r::L)):=List.perm_middle
  have hb2:r2.b=s.r.b:=by
   unfold Sr.refE at hr2
   repeat' split at hr2
   all_goals (cases hr2;rfl)
  refine(Sr.reframe_st (hs.perm e1) hmo fm2 hr2).mono ?_;rintro e w' ⟨h1,h2⟩;refine⟨h1,?_⟩
  have h3:=h2.perm e2.symm
  unfold Sr.pO at h3 ⊢;rw[hb2];exact h3)
 have W8:=n8_nat al
 have W32:=n32_nat md
 have N8:=Lib.hid (show(fl fm)=F from hF.symm)
 have hs2:St w0 X (.blk g 112 SL::qU ro s h::Sr.pR h.gr s.r rB rc::Sr.pO rr rB rc s.r::L) w:=by rw[hSL];exact hs
 rw[<-hPL];clear hb1 hb2;clear hs hSL hPL hhd hdd hal hmd hpd hpa hd1 hd2 hdig hfm hfm2 hF hF2 hq hPV hr2 hb hbq hmo
 have hs:=hs2
 clear hs2
 go_enter Tryz.func118,Tryz.ntmps118
 go_upto_if 10 with (first|((with_reducible refine Se.iL 10 ?_);(refine Se.Ld hs rfl rfl (Cell.blk 1 rfl S0.out) ?_))|((first|with_reducible refine Se.ab hs ?_|with_reducible refine Se.abc hs ?_);clear hs;(first|(generalize w.heap.size=g3;intro w hs))))
 (try simp only[pU])
 go_cut [4] (fun s4 wx=>s4=.int .u8 (n8 d1)/\St w0 X (.blk g3 65 PL::.blk g 112 SL::qU ro s h::Sr.pR h.gr s.r rB rc::Sr.pO rr rB rc s.r::L) wx)
 case first =>
  cases hd with
  | true =>
   have E:=Lib.hid (show d1=pd&&&1#8 from D1.out)
   go_wp2_with (first|((with_reducible refine Se.iL 13 ?_);(refine Se.Ld hs rfl rfl (Cell.blk 0 rfl P9.out) ?_)))
   go_meet;exact⟨by simp[E.out],hs⟩
  | false =>
   have E:=Lib.hid (show d1=0#8 from D1.out)
   go_wp2_with fail
   go_meet;exact⟨by rw[E.out];rfl,hs⟩
 case rest =>
 clear hs D1
 obtain⟨rfl,hs⟩:=hcut
 rename World=>w
 go_upto_if 20 with (first|((with_reducible refine Se.iL 20 ?_);(refine Se.Ld hs rfl rfl (Cell.blk 1 rfl S1.out) ?_)))
 (try simp only[pU])
 go_cut [4] (fun s4 wx=>s4=.int .u8 (n8 d2)/\St w0 X (.blk g3 65 PL::.blk g 112 SL::qU ro s h::Sr.pR h.gr s.r rB rc::Sr.pO rr rB rc s.r::L) wx)
 case first =>
  cases dd with
  | true =>
   have E:=Lib.hid (show d2=d1|||(pd&&&2#8) from D2.out)
   go_wp2_with (first|((with_reducible refine Se.iL 23 ?_);(refine Se.Ld hs rfl rfl (Cell.blk 0 rfl P9.out) ?_)))
   go_meet;exact⟨by rw[E.out],hs⟩
  | false =>
   have E:=Lib.hid (show d2=d1 by rw[D2.out];simp)
   go_wp2_with fail
   go_meet;exact⟨by rw[E.out],hs⟩
 case rest =>
 clear hs D2
 obtain⟨rfl,hs⟩:=hcut
 rename World=>w
 go_upto_region 6 with (fail)
 refine Ch.region' 15 (fun wx=>Blk wx g SL 112) (fun |_=>false) (by kernel_rfl) (by decide +kernel) (hs.drew.hold (.blk g 112 SL) (by simp)) ?_;replace hs:=hs.drew;generalize w.drew=w at hs ⊢;change Ch.CW _ _ _ _ _ [0,1,2,3,4,5,6,7,8,9,10,11,12,13,14] _ _
 iterate 14 ((first|refine Ch.pA ?_|refine Ch.pE (hv:=fun wx hS=>Se.xL (hc:=((hS.cell _).trans S2.out))) (h:=?_)|refine Ch.pE (hv:=fun wx hS=>Se.xL (hc:=((hS.cell _).trans S4.out))) (h:=?_));(try simp only[pU]))
 refine Ch.pE (v:=.agg PV.toArray) (hv:=fun wx hS=>Pd.xbd rfl (vs:=[(0,.int .u8 1),(8,.int .u8 (n8 (BitVec.ofNat 8 al))),(9,.int .u8 (n8 d2)),(10,.int .u32 (n32 (BitVec.ofNat 32 md)))]) rfl (B.out _)) (h:=?_);(try simp only[pU]);refine Ch.done ?_
 try simp only[List.drop_succ_cons,List.drop_zero]
 go_upto_region 7 with (first|(go_at_call 93;refine Calls.mono (C1.out _ _ hs) ?_;clear hs;rintro e w ⟨ro',OB',oc',SL1,rfl,HS1,T2,hs⟩))
 have L1:=Lib.hid (show SL1.length=18 by rw[HS1.out];rfl)
 go_upto_region 8 with (first|((with_reducible refine Se.iL 50 ?_);(refine Se.Ld hs rfl rfl (Cell.blk 2 rfl P8.out) ?_))|((with_reducible refine Se.iL 52 ?_);(refine Se.Bd rfl rfl (BF.out _) ?_))|(with_reducible refine Se.isL (o:=⟨none,_,_,_,_,_⟩) ?_;refine Se.toL rfl (Se.soa 0 hs rfl rfl rfl rfl FO.out (by rw[FL.out];kernel_rfl) (by rw[L1.out,FL.out];decide) ?_);clear hs;intro w hs;simp only[List.set_cons_zero] at hs))
 have E1:=Lib.hid (show SL1.take 11++F++SL1.drop (11+F.length)=scl { sendE s q with f:=fm } { h with OB:=OB',oc:=oc' } by rw[HS1.out,<-N8.out];rfl)
 rw[E1.out] at hs
 obtain⟨SL2,hSL2⟩:∃ SL2,SL2=scl { sendE s q with f:=fm } { h with OB:=OB',oc:=oc' }:=⟨_,rfl⟩
 have L2:=Lib.hid (show SL2.length=18 by rw[hSL2];rfl)
 have U2:=Lib.hid (show SL2[2]? = some (iv al) by rw[hSL2,<-T2.out,HS1.out];rfl)
 have U10:=Lib.hid (show SL2[10]? = some (.pointer (some ⟨h.gr,0,none⟩)) by rw[hSL2];rfl)
 have RF:=Lib.hid (show ∀ (g':Nat) (L':List At),Reads (.blk g' 112 SL2::L') (some ⟨g',11,none⟩) F by intro g' L';rw[hSL2,<-N8.out];exact scl_f { sendE s q with f:=fm } _ g' _ L')
 have E2:=Lib.hid (show SL2.set 8 (.int .i64 2)=scl (openE s p) { h with OB:=OB',oc:=oc' } by rw[hSL2,HO.out];rfl)
 rw[<-hSL2] at hs;clear hSL2 E1 T2 HS1
 go_upto_region 10 with (first|((with_reducible refine Se.iL 58 ?_);(refine Se.Ldw hs rfl rfl (RF.out _ _) (by rw[FL.out];kernel_rfl) ?_))|((with_reducible refine Se.iL 5 ?_);(refine Se.Al hs rfl (fm_z) ?_;clear hs;rintro w g5-hs))|((with_reducible refine Se.isL (o:=⟨none,Op.store 54 _ _,_,_,_,_⟩) ?_);(refine Se.Sow 0 hs rfl rfl rfl rfl (FO.out) (by rw[FL.out];kernel_rfl) (by rw[FL.out];rfl) ?_;clear hs;intro w hs;try simp only[pS] at hs))|((with_reducible refine Se.iL 63 ?_);(refine Se.Ld hs rfl rfl (Cell.blk 1 rfl U2.out) ?_))|((with_reducible refine Se.isL (o:=⟨none,Op.store 3 _ _,_,_,_,_⟩) ?_);(refine Se.Soq 0 hs rfl rfl rfl (by rw[FL.out];omega) (F12.out) ?_;clear hs;intro w hs;try simp only[pS] at hs)))
 refine Ch.region' 5 (fun wx=>Blk wx g SL2 112/\Blk wx g5 F2 54) (fun |_=>false) (by kernel_rfl) (by decide +kernel) (⟨hs.drew.hold (.blk g 112 SL2) (by simp),hs.drew.hold (.blk g5 54 F2) (by simp)⟩) ?_;replace hs:=hs.drew;generalize w.drew=w at hs ⊢;change Ch.CW _ _ _ _ _ [0,1,2,3,4] _ _
 iterate 5 ((first|refine Ch.pA ?_|refine Ch.pE (hv:=fun wx hS=>Se.xL (hc:=((hS.1.cell _).trans U10.out))) (h:=?_)|refine Ch.pE (hv:=fun wx hS=>Se.xR (hr:=(Li.Rd.of_blk hS.2)) (hi:=(by rw[F2L.out];kernel_rfl))) (h:=?_));(try simp only[pU]))
 refine Ch.done ?_
 try simp only[List.drop_succ_cons,List.drop_zero]
 go_wp2_with (first|((with_reducible refine Se.iN ?_);(refine Se.Soq 1 hs rfl rfl rfl (by rw[L2.out];omega) (E2.out) ?_;clear hs;intro w hs;try simp only[pS] at hs))|(go_at_call 140;refine Calls.mono (CR.out [_,_,_,_] _ hs) ?_;clear hs;rintro e w ⟨rfl,hs⟩))
 refine bodyPost_end (results_none rfl _ _ _) rfl ?_
 have HR:=Lib.hid (show(openE s p).r=r2/\(openE s p).out=(sendE s q).out by rw[HO.out];exact⟨rfl,rfl⟩)
 refine⟨rfl,ro',OB',oc',?_⟩;rw[HR.out.1]
 have h3:=(hs.drop.pull 2 rfl).drop
 simp only[qU,List.eraseIdx_cons_succ,List.eraseIdx_cons_zero] at h3 ⊢;rw[HR.out.2];exact h3
end Sn
end Go.Proofs.YtjnllcnknjlmmaaGreat
namespace Go.Proofs.YtjnllcnknjlmmaaGreat
open Go Go.RowKit
namespace Se
section
variable {P:Program} {w0 w:World} {X:List Nat} {L:List At} {o:Oper} {a:Act} {G:Value->World->Prop}
theorem mlq(hs:St w0 X L w){ty:TypeId}{m x:Operand}(ho:o.op=.lookup ty m x true){g:Nat}(hm:a.eval m=.map (some g)){kd:IntKind}{z:Int}(hx:a.eval x=.int kd z){l:Ps}(hk:mp g kd l∈L){kt et:TypeId}(ht:P.underlying ty=some (.map kt et))(hd:P.underlying kt=some (.int kd)){zv:Value}(hz:(P.info? et).bind (·.zero)=some zv){v:Value}{b:Bool}(hv:(getP l z).getD zv=v)(hb:(getP l z).isSome=b)
  (h:G (.tuple #[v,.bool b]) w):Hv.Gives P o a w G:=mlk hs ho hm hx hk ht hd hz (by rw[hv,hb];exact h)
theorem xmln{m:Operand}{mt:TypeId}(ho:o.op=.call { callee:=.builtin .len,args:=#[m],argTypes:=#[mt] }){g:Nat}(hm:a.eval m=.map (some g)){kd:IntKind}{l:Ps}(hp:MP w g kd l){kt et:TypeId}(ht:P.underlying mt=some (.map kt et)){n:Nat}(hn:l.length=n):(execOp a.eval o).run P w=.ok (.value (.int .i64 (n:Nat))) w:=by
 obtain⟨es,c,hb,hst,hks,rfl⟩:=hp
 have hr:(Builtin.len_ #[mt] o.type #[.map (some g)]).run P w=.ok (.int .i64 (n:Nat)) w:=by
  rw[<-hn];simp[Builtin.len_,run_underlying ht,MapKept.run_getObj_map hb,Result.andThen,goInt]
 unfold execOp;simp only[ho,resolve,invoke,builtin,Sem.run_bind,Sem.run_pure,Result.andThen_ok,List.map_toArray,List.map_cons,List.map_nil,hm,hr]
end
end Se
namespace Sn
open Pd (iv)
open Se (St At mp)
open Li (v8)
open Bv (n16)
variable {w0 w:World} {X:List Nat} {L:List At}
attribute [local irreducible] Calls
structure Pl where
 h:Hs
 ro:Option Nat
 rq:Option Nat
 tl:TL
 rl:List (Rq × Th)
def SF(g:Nat)(s:Ss)(k:Pl)(L:List At):List At:=qS g s k.h::qU k.ro s k.h::mp k.h.gt .u16 (tPs k.tl)::mp k.h.gp .u16 (rPs s.rp)::.own 67 k.rq k.h.RB s.rd.length k.h.rc (rqs k.rl)::(tAs k.tl++(qAs k.rl++L))
structure OkP (s:Ss) (k:Pl):Prop where
 tx:s.tx=txs k.tl
 rd:s.rd=rqo k.rl
 en:∀ x∈k.tl,x.2.1.en.length=64
 re:∀ x∈k.rl,x.1.en.length=64
def Fin(w0:World)(X:List Nat)(g:Nat)(s:Ss)(gr:Nat)(L:List At)(w:World):Prop:=∃ k,OkP s k/\k.h.gr=gr/\St w0 X (SF g s k L) w
theorem sub_tail{N T Q:List At}{a b c:At}{L:List At}:(c::(Q++L)).Sublist (N++(a::b::c::(T++(Q++L)))) :=
 List.sublist_append_of_sublist_right (List.Sublist.cons _ (List.Sublist.cons _ (List.Sublist.cons_cons _ (List.sublist_append_right _ _))))
theorem endF(N:List At){g:Nat}{s:Ss}{k:Pl}(hs:St w0 X (N++SF g s k L) w)(ok:OkP s k)(re:Nat)(hb:(endE s re).out.length<=70368744177664) :
  Calls Tryz.prog 89 #[.pointer (some ⟨g,0,none⟩),iv re] w fun e w'=>e=.returned (.tuple #[])/\Fin w0 X g (endE s re) k.h.gr L w':=by
 have h1:=hs.perm (List.perm_append_comm_assoc N [qS g s k.h,qU k.ro s k.h] _)
 refine(end_st h1 re hb).mono ?_;rintro e w' ⟨ro',OB',oc',gt',gp',rfl,h2⟩;refine⟨rfl,{ k with h:={ k.h with OB:=OB',oc:=oc',gt:=gt',gp:=gp' },ro:=ro',tl:=[] },⟨rfl,ok.rd,by simp,ok.re⟩,rfl,?_⟩
 have h5:=h2.perm ((List.perm_append_comm_assoc [_,_] [_,_] _).trans (List.Perm.cons _ (List.Perm.cons _ (List.Perm.swap _ _ _))))
 exact h5.sub (List.Sublist.cons_cons _ (List.Sublist.cons_cons _ (List.Sublist.cons_cons _ (List.Sublist.cons_cons _ sub_tail))))
theorem overF(N:List At){g:Nat}{s:Ss}{k:Pl}(hs:St w0 X (N++SF g s k L) w)(ok:OkP s k)(re:Nat) :
  Calls Tryz.prog 122 #[.pointer (some ⟨g,0,none⟩),iv re] w fun e w'=>e=.returned (.tuple #[])/\Fin w0 X g (overE s re) k.h.gr L w':=by
 have h1:=hs.perm (List.perm_append_comm_assoc N [qS g s k.h,qU k.ro s k.h] _)
 refine(over_st h1 re).mono ?_;rintro e w' ⟨gt',gp',rfl,h2⟩;refine⟨rfl,{ k with h:={ k.h with gt:=gt',gp:=gp' },tl:=[] },⟨rfl,ok.rd,by simp,ok.re⟩,rfl,?_⟩
 have h5:=h2.perm ((List.perm_append_comm_assoc [_,_] [_,_] _).trans (List.Perm.cons _ (List.Perm.cons _ (List.Perm.swap _ _ _))))
 exact h5.sub (List.Sublist.cons_cons _ (List.Sublist.cons_cons _ (List.Sublist.cons_cons _ (List.Sublist.cons_cons _ sub_tail))))
theorem put_txs(tl:TL)(id:BitVec 16)(p:Tx × Th):putA (txs tl) id p.1=txs (putA tl id p):=putA_mapA (fun p:Tx × Th=>p.1) tl id p
theorem del_txs(tl:TL)(id:BitVec 16):delA (txs tl) id=txs (delA tl id):=delA_mapA (fun p:Tx × Th=>p.1) tl id
theorem get_txs(tl:TL)(id:BitVec 16):getA (txs tl) id=(getA tl id).map (·.1):=getA_mapA (fun p:Tx × Th=>p.1) tl id
theorem put_en{tl:TL}{id:BitVec 16}{p:Tx × Th}(h:∀ x∈tl,x.2.1.en.length=64)(hp:p.1.en.length=64):∀ x∈putA tl id p,x.2.1.en.length=64:=by
 intro x hx;unfold putA at hx
 split at hx
 ·obtain⟨y,hy,rfl⟩:=List.mem_map.1 hx
  split
  ·exact hp
  ·exact h y hy
 ·rcases List.mem_append.1 hx with hx|hx
  ·exact h x hx
  ·obtain rfl:=List.mem_singleton.1 hx
   exact hp
theorem del_en{tl:TL}{id:BitVec 16}(h:∀ x∈tl,x.2.1.en.length=64):∀ x∈delA tl id,x.2.1.en.length=64:=fun x hx=>h x (List.mem_filter.1 hx).1
theorem askF(N:List At){g:Nat}{s:Ss}{k:Pl}{T:List At}(id:BitVec 16)(p:Tx × Th)(hs:St w0 X (N++(qS g s k.h::qU k.ro s k.h::mp k.h.gt .u16 (tPs k.tl)::mp k.h.gp .u16 (rPs s.rp)::.own 67 k.rq k.h.RB s.rd.length k.h.rc (rqs k.rl)::(T++(qAs k.rl++L)))) w)(ok:OkP s k)(he:p.1.en.length=64)(h1:p.1.da.length<=p.1.ln)(h2:p.1.ln<=1048576)(h3:s.c.tr<=1048576)(hb:(askE s id p.1).out.length<=70368744177664)
  (hT:T.Perm (tAs (putA k.tl id ({ p.1 with nd:=min (p.1.da.length+s.c.tr) p.1.ln },p.2)))) :
  Calls Tryz.prog 156 #[.pointer (some ⟨g,0,none⟩),.int .u16 (n16 id),.agg (txv p).toArray] w fun e w'=>e=.returned (.tuple #[])/\Fin w0 X g (askE s id p.1) k.h.gr L w':=by
 have h4:=hs.perm (List.perm_append_comm_assoc N [_,_,_] _)
 refine(ask_st h4 id p he h1 h2 h3 hb).mono ?_;rintro e w' ⟨ro',OB',oc',rfl,h5⟩;refine⟨rfl,{ k with h:={ k.h with OB:=OB',oc:=oc' },ro:=ro',tl:=putA k.tl id ({ p.1 with nd:=min (p.1.da.length+s.c.tr) p.1.ln },p.2) },⟨?_,ok.rd,put_en ok.en he,ok.re⟩,rfl,?_⟩
 ·rw[<-put_txs,<-ok.tx]
  rfl
 ·have h6:=h5.sub (L':=qS g (askE s id p.1) _::qU ro' (askE s id p.1) _::mp k.h.gt .u16 _::_) (List.Sublist.cons_cons _ (List.Sublist.cons_cons _ (List.Sublist.cons_cons _ (List.sublist_append_right N _))))
  exact h6.perm (List.Perm.cons _ (List.Perm.cons _ (List.Perm.cons _ (List.Perm.cons _ (List.Perm.cons _ (List.Perm.append_right _ hT))))))
theorem requestF(N:List At){g:Nat}{s:Ss}{k:Pl}(q:Rq)(t:Th)(hs:St w0 X (N++SF g s k (.own 1 t.r t.A q.da.length t.c (q.da.map v8)::L)) w)(ok:OkP s k)(hb:s.rd.length<=8388608)(he:q.en.length=64) :
  Calls Tryz.prog 158 #[.pointer (some ⟨g,0,none⟩),.int .u16 (n16 q.id),.agg (q.en.map v8).toArray,.slice t.A q.da.length t.c,iv q.rp] w fun e w'=>e=.returned (.tuple #[])/\Fin w0 X g (requestE s q.id q.en q.da q.rp) k.h.gr L w':=by
 have h1:=hs.perm (List.perm_append_comm_assoc N [qS g s k.h,qU k.ro s k.h,mp k.h.gt .u16 (tPs k.tl),mp k.h.gp .u16 (rPs s.rp),.own 67 k.rq k.h.RB s.rd.length k.h.rc (rqs k.rl)] _)
 have h3:=h1.perm (List.Perm.cons _ (List.perm_append_comm_assoc [_,_] [_,_] _))
 refine(request_st h3 ok.rd ok.re hb q t he).mono ?_;rintro e w' ⟨rq',RB',rc',rfl,h4⟩;refine⟨rfl,{ k with h:={ k.h with RB:=RB',rc:=rc' },rq:=rq',rl:=k.rl++[(q,t)] },⟨ok.tx,?_,ok.en,?_⟩,rfl,?_⟩
 ·show s.rd++[_]=rqo (k.rl++[(q,t)])
  unfold rqo;rw[List.map_append,ok.rd]
  rfl
 ·intro x hx
  rcases List.mem_append.1 hx with hx|hx
  ·exact ok.re x hx
  ·obtain rfl:=List.mem_singleton.1 hx
   exact he
 ·have h5:=h4.perm (List.Perm.cons _ (List.perm_append_comm_assoc [_,_] [_,_] _))
  have e:qAs (k.rl++[(q,t)])++L=qAs k.rl++(.own 1 t.r t.A q.da.length t.c (q.da.map v8)::L):=by
   unfold qAs;rw[List.map_append,List.append_assoc]
   rfl
  unfold SF;rw[e];exact h5.sub (List.Sublist.cons_cons _ (List.Sublist.cons_cons _ (List.Sublist.cons_cons _ (List.Sublist.cons_cons _ (List.Sublist.cons_cons _ (List.sublist_append_right _ _))))))
theorem Fin.sub{g gr:Nat}{s:Ss}{L':List At}(h:Fin w0 X g s gr L w)(hl:L'.Sublist L):Fin w0 X g s gr L' w:=by
 obtain⟨k,h1,h2,h3⟩:=h
 refine⟨k,h1,h2,h3.sub ?_⟩;exact List.Sublist.cons_cons _ (List.Sublist.cons_cons _ (List.Sublist.cons_cons _ (List.Sublist.cons_cons _ (List.Sublist.cons_cons _ (List.Sublist.append_left (List.Sublist.append_left hl _) _)))))
theorem SF_perm{g:Nat}{s:Ss}{k:Pl}{L':List At}(h:L.Perm L'):(SF g s k L).Perm (SF g s k L') :=
 List.Perm.cons _ (List.Perm.cons _ (List.Perm.cons _ (List.Perm.cons _ (List.Perm.cons _ (List.Perm.append_left _ (List.Perm.append_left _ h))))))
theorem St.swapA(N B:List At){R:List At}(h:St w0 X (N++(B++R)) w):St w0 X (B++(N++R)) w:=h.perm (List.perm_append_comm_assoc N B R)
theorem descF(N:List At){g:Nat}{s:Ss}{k:Pl}(hs:St w0 X (N++SF g s k L) w)(b:Bs)(hb:b.length=64)(d:Nat) :
  Calls Tryz.prog 154 #[.pointer (some ⟨g,0,none⟩),.agg (b.map v8).toArray,iv d] w fun e w'=>e=.returned (.tuple #[iv (descE s.c b d).1,.bool (descE s.c b d).2])/\St w0 X (N++SF g s k L) w':=by
 refine(described_st (St.swapA N [_] hs) b hb d).mono ?_;rintro e w' ⟨h1,h2⟩;exact⟨h1,St.swapA [_] N h2⟩
theorem tagF(N:List At){g:Nat}{s:Ss}{k:Pl}(hs:St w0 X (N++SF g s k L) w)(ok:OkP s k)(hl:k.tl.length<=60000) :
  Calls Tryz.prog 157 #[.pointer (some ⟨g,0,none⟩)] w fun e w'=>e=.returned (.int .u16 (n16 (tagE s.tx (s.tx.length+1) 0#16)))/\St w0 X (N++SF g s k L) w':=by
 have h1:=(St.swapA N [_,_,_] hs).perm (List.Perm.cons _ (List.Perm.swap _ _ _))
 refine(tag_st h1 ok.en hl).mono ?_;rintro e w' ⟨h2,h3⟩;rw[ok.tx];exact⟨h2,St.swapA [_,_,_] N (h3.perm (List.Perm.cons _ (List.Perm.swap _ _ _)))⟩
theorem scl_at(s:Ss)(h:Hs):(scl s h)[3]? = some (iv s.c.ic)/\(scl s h)[4]? = some (iv s.c.md)/\(scl s h)[6]? = some (iv s.c.os)/\(scl s h)[8]? = some (iv s.st)/\(scl s h)[10]? = some (.pointer (some ⟨h.gr,0,none⟩))/\(scl s h)[15]? = some (.map (some h.gt))/\(scl s h)[16]? = some (.map (some h.gp))/\(scl s h)[17]? = some (.slice h.RB s.rd.length h.rc):=⟨rfl,rfl,rfl,rfl,rfl,rfl,rfl,rfl⟩
end Sn
end Go.Proofs.YtjnllcnknjlmmaaGreat
