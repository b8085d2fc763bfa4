/- Layer 41. -/
import Derived.Test.YtjnllcnknjlmmaaGreatKg01
set_option linter.unusedSimpArgs false
set_option linter.unusedVariables false
set_option maxRecDepth 100000
set_option maxHeartbeats 4000000
namespace Go.Proofs.YtjnllcnknjlmmaaGreat
open Go Go.RowKit
namespace Se
end Se
end Go.Proofs.YtjnllcnknjlmmaaGreat
namespace Go.Proofs.YtjnllcnknjlmmaaGreat
open Go Go.RowKit
namespace Se
end Se
end Go.Proofs.YtjnllcnknjlmmaaGreat
namespace Go.Proofs.YtjnllcnknjlmmaaGreat
namespace Or
open Go Go.RowKit Hv Ch
end Or
end Go.Proofs.YtjnllcnknjlmmaaGreat
namespace Go.Proofs.YtjnllcnknjlmmaaGreat
namespace Lift
open Go Go.ChangeShapes Go.WideShapes Go.ChangeAt Go.RowKit
variable {H:Type} {enc:TypeId × Value->H} {P:Program}
theorem open_arr{W:World}{r:Reach}{base:Nat}{t e:TypeId}{n:Nat}{k:IntKind}{v:Value}(ht:P.underlying t=some (.array n e))(he:P.underlying e=some (.int k))(hct:P.cellTypes P.depth t=some (List.replicate n e))(hc:P.cellsOf t=n)(hv:Value.okWide P W r base t v) :
  ∃ zs:List Int,v=.agg (zs.map (Value.int k)).toArray/\zs.length=n/\∀ z∈zs,k.has z:=by
 unfold Value.okWide at hv;rw[ht] at hv
 obtain⟨cs,rfl,hsz,ts,hts,_,hcell⟩:=hv
 rw[hct] at hts
 cases hts
 have each:∀ i (hi:i<cs.size),∃ z,cs[i]=.int k z/\k.has z:=by
  intro i hi
  obtain⟨u,hu,hok⟩:=hcell i cs[i] (by simp[hi])
  have hmod:i%(List.replicate n e).length<n:=by rw[List.length_replicate];exact Nat.mod_lt _ (by omega)
  have hue:u=e:=by
   rw[List.getElem?_replicate] at hu
   split at hu <;> first|exact(Option.some.inj hu).symm|cases hu
  subst hue;unfold Cell.okWide Cell.ok at hok;rw[he] at hok;generalize cs[i]=v at hok
  cases v <;> simp at hok
  obtain⟨rfl,h2⟩:=hok
  exact⟨_,rfl,h2⟩
 refine⟨cs.toList.map (fun v=>match v with | .int _ z=>z|_=>0),?_,by simp[hsz,hc],?_⟩
 ·congr 1
  apply Array.ext
  ·simp
  ·intro i h1 h2
   obtain⟨z,hz,_⟩:=each i h1
   simp[hz]
 ·intro z hz
  obtain⟨v,hv,rfl⟩:=List.mem_map.1 hz
  obtain⟨i,hi,rfl⟩:=List.getElem_of_mem hv
  obtain⟨z,hz,hk⟩:=each i (by simpa using hi)
  simp only[Array.getElem_toList,hz];exact hk
theorem open_arr8{W:World}{r:Reach}{base:Nat}{t e:TypeId}{n:Nat}{v:Value}(ht:P.underlying t=some (.array n e))(he:P.underlying e=some (.int .u8))(hct:P.cellTypes P.depth t=some (List.replicate n e))(hc:P.cellsOf t=n)(hv:Value.okWide P W r base t v) :
  ∃ bs:List (BitVec 8),v=.agg (bs.map Li.v8).toArray/\bs.length=n:=by
 obtain⟨zs,rfl,hl,hz⟩:=open_arr ht he hct hc hv
 refine⟨zs.map (BitVec.ofInt 8),?_,by simpa using hl⟩
 congr 2
 rw[List.map_map];refine List.map_congr_left fun z hzm=>?_
 have h:=hz z hzm
 simp only[IntKind.has,IntKind.min,IntKind.max,IntKind.signed,IntKind.bits] at h;simp only[Function.comp,Li.v8,Bv.n8_of]
 congr 1
 simp at h;omega
end Lift
end Go.Proofs.YtjnllcnknjlmmaaGreat
namespace Go.Proofs.YtjnllcnknjlmmaaGreat
open Go Go.RowKit
namespace Se
end Se
end Go.Proofs.YtjnllcnknjlmmaaGreat
namespace Go.Proofs.YtjnllcnknjlmmaaGreat
open Go Go.RowKit
namespace Se
end Se
end Go.Proofs.YtjnllcnknjlmmaaGreat
namespace Go.Proofs.YtjnllcnknjlmmaaGreat
open Go Go.ChangeShapes Go.WideShapes Go.ChangeAt Go.RowKit
namespace Lift
variable {P:Program}
end Lift
end Go.Proofs.YtjnllcnknjlmmaaGreat
namespace Go.Proofs.YtjnllcnknjlmmaaGreat
open Go Go.ChangeShapes Go.WideShapes Go.ChangeAt Go.RowKit
namespace Lift
end Lift
end Go.Proofs.YtjnllcnknjlmmaaGreat
namespace Go.Proofs.YtjnllcnknjlmmaaGreat
open Go Go.RowKit
namespace Se
end Se
end Go.Proofs.YtjnllcnknjlmmaaGreat
namespace Go.Proofs.YtjnllcnknjlmmaaGreat
namespace Gd
open Go Go.RowKit Hv Ch
end Gd
end Go.Proofs.YtjnllcnknjlmmaaGreat
namespace Go.Proofs.YtjnllcnknjlmmaaGreat
open Go Go.RowKit
namespace Se
end Se
namespace Ch
open Go Go.RowKit Hv Ch
end Ch
namespace Hv
end Hv
namespace Or
open Go Go.RowKit Hv Ch
end Or
namespace Gd
open Go Go.RowKit Hv Ch
end Gd
end Go.Proofs.YtjnllcnknjlmmaaGreat
namespace Go.Proofs.YtjnllcnknjlmmaaGreat
open Go Go.RowKit
namespace Sn
open Pd (PDU)
open Se (At)
variable {w0 w:World} {X:List Nat} {L:List At}
attribute [local irreducible] Calls
theorem pcv_one(x:PDU × Ta):∀ v∈pcv x,v.oneCell'=true:=Pd.pc_one _ _ _ _ _ _ _
end Sn
end Go.Proofs.YtjnllcnknjlmmaaGreat
namespace Go.Proofs.YtjnllcnknjlmmaaGreat
open Go Go.RowKit
namespace Sn
open Pd (valid)
theorem v_resp{en:Bs}(h:en.length=16):valid { h:={ k:=5#8 },en:=en }=true:=by
 unfold valid Pd.only Pd.own;simp[Pd.hdr,Pd.most,h]
theorem v_cdata(id:BitVec 16)(of:BitVec 32)(la:Bool){da:Bs}(h1:0<da.length)(h2:da.length<=1048576):valid { h:={ k:=7#8,id:=id,of:=of,la:=la },da:=da }=true:=by
 unfold valid Pd.only Pd.own;simp[Pd.hdr,Pd.most,h1,h2]
end Sn
end Go.Proofs.YtjnllcnknjlmmaaGreat
namespace Go.Proofs.YtjnllcnknjlmmaaGreat
open Go Go.RowKit
namespace Sn
open Pd (Fm PDU encE enc valid framed)
def chk(md:Nat)(id:BitVec 16)(da:Bs)(a:Nat):PDU:={ h:={ k:=7#8,id:=id,of:=BitVec.ofNat 32 a,la:=decide (min (a+md) da.length=da.length) },da:=(da.drop a).take md }
theorem replyL_get{md:Nat}(id:BitVec 16)(da:Bs)(hm:1<=md):∀ (n a i:Nat),da.length<a+n->(replyL md id da n a)[i]? = if a+i*md<da.length then some (chk md id da (a+i*md)) else none
 | 0,a,i,h=>by
  rw[if_neg (by omega)]
  rfl
 | n+1,a,i,h=>by
  unfold replyL
  by_cases h1:da.length<=a
  ·rw[if_pos h1,if_neg (by omega)]
   rfl
  ·rw[if_neg h1]
   cases i with
   | zero =>
    rw[Nat.zero_mul,Nat.add_zero,if_pos (by omega)]
    rfl
   | succ i =>
    rw[List.getElem?_cons_succ,replyL_get id da hm n (a+md) i (by omega),show a+md+i*md=a+(i+1)*md by rw[Nat.succ_mul];omega]
theorem replyL_len{md:Nat}(id:BitVec 16)(da:Bs)(hm:1<=md):∀ (n a:Nat),da.length<a+n->(replyL md id da n a).length=(da.length-a+md-1) / md
 | 0,a,h=>by
  rw[show da.length-a=0 by omega,Nat.zero_add,Nat.div_eq_of_lt (by omega)]
  rfl
 | n+1,a,h=>by
  unfold replyL
  by_cases h1:da.length<=a
  ·rw[if_pos h1,show da.length-a=0 by omega,Nat.zero_add,Nat.div_eq_of_lt (by omega)]
   rfl
  ·rw[if_neg h1,List.length_cons,replyL_len id da hm n (a+md) (by omega),show da.length-a+md-1=(da.length-a-1)+md by omega,Nat.add_div_right _ (by omega)]
   by_cases h2:a+md<=da.length
   ·rw[show da.length-(a+md)+md-1=da.length-a-1 by omega]
   ·rw[show da.length-(a+md)+md-1=md-1 by omega,Nat.div_eq_of_lt (show md-1<md by omega),Nat.div_eq_of_lt (show da.length-a-1<md by omega)]
theorem replyL_valid{md:Nat}(id:BitVec 16)(da:Bs)(hm:1<=md)(hM:md<=1048576):∀ (n a:Nat),∀ p∈replyL md id da n a,valid p=true
 | 0,_,p,h=>absurd h List.not_mem_nil
 | n+1,a,p,h=>by
  unfold replyL at h
  by_cases h1:da.length<=a
  ·rw[if_pos h1] at h
   exact absurd h List.not_mem_nil
  ·rw[if_neg h1] at h
   rcases List.mem_cons.1 h with rfl|h
   ·have hl:((da.drop a).take md).length=min md (da.length-a):=by rw[List.length_take,List.length_drop]
    exact v_cdata id _ _ (by rw[hl];omega) (by rw[hl];omega)
   ·exact replyL_valid id da hm hM n (a+md) p h
theorem fold_send:∀ (l:List PDU) (s:Ss),l.foldl sendE s={ s with out:=s.out++l.flatMap (fun p=>(encE p s.f).1) }
 | [],s=>by simp
 | p::l,s=>by
  rw[List.foldl_cons,fold_send l (sendE s p)]
  show({ s with out:=(s.out++(encE p s.f).1)++l.flatMap (fun q=>(encE q s.f).1) }:Ss)=_
  rw[List.append_assoc]
  rfl
theorem flat_encs{f:Fm}(hf:framed f=true):∀ {l:List PDU},(∀ p∈l,valid p=true)->l.flatMap (fun p=>(encE p f).1)=encs f l
 | [],_=>rfl
 | p::l,h=>by
  show(encE p f).1++l.flatMap (fun p=>(encE p f).1)=enc p f++encs f l
  rw[encE_eq hf (h p List.mem_cons_self),flat_encs hf (fun q hq=>h q (List.mem_cons_of_mem _ hq))]
def repL(c:Cf)(id:BitVec 16)(en da:Bs):List PDU:=replyL c.md id da (da.length+1) 0++[{ h:={ k:=5#8 },en:=en }]
theorem repL_valid{c:Cf}(hc:c.ok)(id:BitVec 16){en:Bs}(he:en.length=16)(da:Bs):∀ p∈repL c id en da,valid p=true:=by
 intro p hp
 rcases List.mem_append.1 hp with h|h
 ·exact replyL_valid id da (Nat.le_trans (by decide) hc.m1) hc.md _ _ p h
 ·obtain rfl:=List.mem_singleton.1 h
  exact v_resp he
theorem lv_reply{c:Cf}{al dg:BitVec 8}{s:Ss}(h:Lv c al dg s)(hc:c.ok)(h1:al.toNat<=31)(ho:s.out=[]){id:BitVec 16}{n:Nat}(hr:s.rp=[(id,n)]){en da:Bs}(he:en.length=16)(hd:da.length<=n) :
  ∃ t,replyE s id en da=(t,0)/\t.st=2/\t.re=0/\t.tx=s.tx/\t.rp=[]/\t.out=encs (lfE c al dg) (repL c id en da):=by
 have hv:=repL_valid hc id he da
 have e:replyE s id en da=(sendE ((replyL s.c.md id da (da.length+1) 0).foldl sendE { s with rp:=delA s.rp id }) { h:={ k:=5#8 },en:=en },0):=by
  unfold replyE;rw[if_neg (fun hh=>hh h.st),hr,getA_one]
  show(if n<da.length then _ else _)=_
  rw[if_neg (by omega)]
 have e2:sendE ((replyL s.c.md id da (da.length+1) 0).foldl sendE { s with rp:=delA s.rp id }) { h:={ k:=5#8 },en:=en }=(repL c id en da).foldl sendE { s with rp:=[] }:=by
  unfold repL;rw[List.foldl_append,hr,delA_one,h.c]
  rfl
 rw[e2,fold_send] at e;refine⟨_,e,h.st,h.re,rfl,rfl,?_⟩
 show s.out++(repL c id en da).flatMap (fun p=>(encE p s.f).1)=_
 rw[ho,h.f,flat_encs (framed_lf h1) hv,List.nil_append]
theorem lv_long{c:Cf}{al dg:BitVec 8}{s:Ss}(h:Lv c al dg s){id:BitVec 16}{n:Nat}(hr:s.rp=[(id,n)]){en da:Bs}(hd:n<da.length):replyE s id en da=(s,5):=by
 unfold replyE;rw[if_neg (fun hh=>hh h.st),hr,getA_one]
 show(if n<da.length then _ else _)=_
 rw[if_pos hd]
end Sn
end Go.Proofs.YtjnllcnknjlmmaaGreat
namespace Go.Proofs.YtjnllcnknjlmmaaGreat
open Go Go.RowKit
namespace Sn
open Pd (PDU)
open Se (At Reads)
open Su (u16)
open Li (v8)
variable {w0 w:World} {X:List Nat} {L:List At}
attribute [local irreducible] Calls
def cnt(n md:Nat):Nat:=(n+md-1) / md
theorem cnt_lt{n md i:Nat}(hm:1<=md):i<cnt n md↔i*md<n:=by
 unfold cnt;rw[Nat.lt_div_iff_mul_lt (by omega)];omega
theorem cnt_le{n md i:Nat}(hm:1<=md):cnt n md<=i↔n<=i*md:=by
 have:=cnt_lt (n:=n) (md:=md) (i:=i) hm
 omega
theorem repL_len{c:Cf}(hc:c.ok)(id:BitVec 16)(en da:Bs):(repL c id en da).length=cnt da.length c.md+1:=by
 have h1:=hc.m1
 unfold repL;rw[List.length_append,replyL_len id da (by omega) _ _ (by omega)]
 rfl
theorem repL_chk{c:Cf}(hc:c.ok)(id:BitVec 16)(en da:Bs){i:Nat}(h:i<cnt da.length c.md):(repL c id en da)[i]? = some (chk c.md id da (i*c.md)):=by
 have h1:=hc.m1
 have h2:=(cnt_lt (show 1<=c.md by omega)).1 h
 unfold repL;rw[List.getElem?_append_left (by rw[replyL_len id da (by omega) _ _ (by omega)];exact h),replyL_get id da (by omega) _ _ _ (by omega),Nat.zero_add,if_pos h2]
theorem repL_last{c:Cf}(hc:c.ok)(id:BitVec 16)(en da:Bs):(repL c id en da)[cnt da.length c.md]? = some { h:={ k:=5#8 },en:=en }:=by
 have h1:=hc.m1
 have e:(replyL c.md id da (da.length+1) 0).length=cnt da.length c.md:=replyL_len id da (by omega) _ _ (by omega)
 unfold repL;rw[List.getElem?_append_right (by rw[e];exact Nat.le_refl _),e,Nat.sub_self]
 rfl
theorem repL_da{c:Cf}(hc:c.ok)(id:BitVec 16)(en da:Bs):∀ p∈repL c id en da,p.da.length<=da.length:=by
 have h1:=hc.m1
 intro p hp
 obtain⟨i,hi⟩:=List.getElem?_of_mem hp
 by_cases h:i<cnt da.length c.md
 ·rw[repL_chk hc id en da h] at hi
  obtain rfl:=Option.some.inj hi
  show((da.drop _).take _).length<=_
  rw[List.length_take,List.length_drop];omega
 ·have hl:=(List.getElem?_eq_some_iff.1 hi).1
  rw[repL_len hc] at hl
  obtain rfl:i=cnt da.length c.md:=by omega
  rw[repL_last hc] at hi
  obtain rfl:=Option.some.inj hi
  exact Nat.zero_le _
theorem pcs_at:∀ (l:List (PDU × Ta)) (i:Nat) (x:PDU × Ta),l[i]? = some x->((pcs l).drop (i*14)).take 14=pcv x
 | [],i,x,h=>by simp at h
 | a::l,0,x,h=>by
  obtain rfl:a=x:=by simpa using h
  show((pcv a++pcs l).drop _).take 14=_
  rw[Nat.zero_mul,List.drop_zero];exact List.take_left' rfl
 | a::l,i+1,x,h=>by
  show((pcv a++pcs l).drop _).take 14=_
  rw[show(i+1)*14=(pcv a).length+i*14 by show _=14+i*14;omega,<-List.drop_drop,List.drop_left];exact pcs_at l i x (by simpa using h)
theorem pcs_row{g o:Nat}{l:List (PDU × Ta)}(hx:Reads L (some ⟨g,o,none⟩) (pcs l)){i:Nat}{x:PDU × Ta}(hp:l[i]? = some x):Reads L (some ⟨g,o+i*14,none⟩) (pcv x):=by
 have h:=(hx.at (i*14)).take 14
 rw[pcs_at l i x hp] at h;exact h
theorem take_snoc(da:Bs)(i md n:Nat)(hn:n=da.length):da.take (min (i*md) n)++(da.drop (i*md)).take md=da.take (min ((i+1)*md) n):=by
 rw[Nat.succ_mul]
 by_cases h:i*md<=n
 ·rw[Nat.min_eq_left h,<-List.take_add]
  by_cases h2:i*md+md<=n
  ·rw[Nat.min_eq_left h2]
  ·rw[Nat.min_eq_right (by omega),List.take_of_length_le (by omega),hn,List.take_length]
 ·rw[Nat.min_eq_right (by omega),Nat.min_eq_right (by omega),hn,List.take_length,List.drop_eq_nil_of_le (by omega)]
  simp
theorem bd_rq4(z:Int)(B:List Value)(hB:B.length=64)(m:Int)(w:World):(Instr.build 96 #[(0,.int .u16 z),(1,.agg B.toArray),(3,.int .i64 m)]).run Tryz.prog w=.ok (.agg (Value.int .u16 z::(B++[Value.slice none 0 0,Value.int .i64 m])).toArray) w:=by
 refine run_plc (parts:=[(0,.int .u16 z),(1,.agg B.toArray),(3,.int .i64 m)]) plc_rq ?_ w;rw[fill_one rfl rfl (by simp)];rw[List.set_cons_zero,fill_agg rfl (by rw[hB]) (by simp)];rw[fill_one rfl rfl (by simp[hB])];simp[Instr.fill,hB,List.set_append]
theorem zs_v8(m:Nat):(List.replicate m [Value.int .u8 0]).flatten=(Pd.zs m).map v8:=by
 rw[List.flatten_replicate_singleton,List.map_replicate]
 rfl
end Sn
end Go.Proofs.YtjnllcnknjlmmaaGreat
namespace Go.Proofs.YtjnllcnknjlmmaaGreat
open Go Go.RowKit
namespace Sn
open Pd (PDU enc iv fl)
open Se (St At Reads Cell)
open Su (u16)
open Li (v8 v8_one Rd Blk)
open Bv (n8 n32)
variable {w0 w:World} {X:List Nat} {L:List At}
attribute [local irreducible] Calls
theorem replies_plain{c:Cf}(hc:c.ok){al dg:BitVec 8}(h1:al.toNat<=31)(h2:dg.toNat<=3)(en da:Bs)(he:en.length=16)(hd:da.length<=12000){q:Nat}(hq:da.length<=q)(hq2:q<=20000):∃ t1 t2:Ss,feedE (liveE c al dg) (enc (rdP 9#16 q) (owE c dg))=(t1,[⟨9#16,entE 2#8 9#16 q 90#8,[],q⟩],0)/\Bd (liveE c al dg)/\(liveE c al dg).out=[]/\Bd t1/\t1.out=[] /\
  replyE t1 9#16 en (Pd.zs (q+1))=(t1,5)/\replyE t1 9#16 en da=(t2,0)/\t2.st=2/\t2.re=0/\t2.tx=[]/\t2.rp=[]/\t2.out=encs (lfE c al dg) (repL c 9#16 en da):=by
 obtain⟨l1,l2,l3,l4,l5,l6,l7⟩:=lv_live hc.al (al:=al) (dg:=dg) h1 h2
 have i0:=inv_live hc hc.al (al:=al) (dg:=dg) h1 h2
 have b0:Bd (liveE c al dg):=⟨i0,by rw[l1.rb];simp only[List.length_nil];omega,by rw[l1.rb,l7];decide⟩
 obtain⟨t1,f1,v1,x1,p1,o1,n1,m1⟩:=lv_read l1 hc l3 l4 9#16 (n:=q) (by omega)
 have hl1:=enc_le (framed_fm (d:=digE c dg) hc.al) (rd_valid 9#16 q)
 have b1:Bd t1:=bd_feed (by rw[l1.rb,l7];simp only[List.length_nil];omega) i0 (Nat.le_trans hl1 (by decide)) f1
 obtain⟨t2,f2,s2,r2,x2,p2,o2⟩:=lv_reply v1 hc h1 (o1.trans l2) p1 he hq
 exact⟨t1,t2,f1,b0,l2,b1,o1.trans l2,lv_long v1 p1 (by rw[List.length_replicate];omega),f2,s2,r2,x2.trans x1,p2,o2⟩
theorem replies_st(hs:St w0 X L w)(r:Rw)(al dg:BitVec 8)(da:Bs){A:Option Addr}{n ca:Nat}(hn:n=da.length)(hx:Reads L A (da.map v8))(hca:n<=ca)(mo:Int)(en:Bs)(he:en.length=16) :
  Calls Tryz.prog 10 #[.agg (rwl r).toArray,.int .u8 (n8 al),.int .u8 (n8 dg),.slice A n ca,.int .i64 mo,.agg (en.map v8).toArray] w fun e' w'=>e'=.returned (.bool true)/\St w0 X L w':=by
 obtain⟨R,hR⟩:∃ R,R=rwl r:=⟨_,rfl⟩
 obtain⟨EV,hEV⟩:∃ E,E=en.map v8:=⟨_,rfl⟩
 have RL:=Lib.hid (show R.length=7 by rw[hR];rfl)
 have EVL:=Lib.hid (show EV.length=16 by rw[hEV,List.length_map,he])
 have CK:Hid (∀ (M:List At) (w:World),St w0 X M w->Calls Tryz.prog 35 #[] w fun e' w'=>e'=.returned (.bool true)/\St w0 X M w'):=Lib.hid (fun M w hs=>known_st hs)
 by_cases h1:12000<n
 ·have t1:(12000:Int)<(n:Int):=by omega
  rw[<-hR,<-hEV];clear hR hEV hx hn h1 hca
  go_enter Tryz.func10,Tryz.ntmps10
  go_wp2_with (first|((with_reducible refine Se.iL 6 ?_);(refine Se.toL rfl (Se.bx (o:=⟨some 6,_,_,_,_,_⟩) hs rfl rfl (l:=R) rfl ?_);clear hs;rintro w g6-hs))|((with_reducible refine Se.iL 11 ?_);(refine Se.toL rfl (Se.bx (o:=⟨some 11,_,_,_,_,_⟩) hs rfl rfl (l:=EV) rfl ?_);clear hs;rintro w g11-hs))|((first|with_reducible refine Se.ab hs ?_|with_reducible refine Se.abc hs ?_);clear hs;(first|(generalize w.heap.size=g6;intro w hs)))|((first|with_reducible refine Se.ab hs ?_|with_reducible refine Se.abc hs ?_);clear hs;(first|(generalize w.heap.size=g11;intro w hs)))|(go_at_call 35;refine Calls.mono (CK.out _ _ hs) ?_;clear hs;rintro e w ⟨rfl,hs⟩))
  go_ret;exact⟨rfl,hs.drop.drop⟩
 have t1:¬ (12000:Int)<(n:Int):=by omega
 by_cases h2:mo<0
 ·rw[<-hR,<-hEV]
  clear hR hEV hx hn h1 hca
  go_enter Tryz.func10,Tryz.ntmps10
  go_wp2_with (first|((with_reducible refine Se.iL 6 ?_);(refine Se.toL rfl (Se.bx (o:=⟨some 6,_,_,_,_,_⟩) hs rfl rfl (l:=R) rfl ?_);clear hs;rintro w g6-hs))|((with_reducible refine Se.iL 11 ?_);(refine Se.toL rfl (Se.bx (o:=⟨some 11,_,_,_,_,_⟩) hs rfl rfl (l:=EV) rfl ?_);clear hs;rintro w g11-hs))|((first|with_reducible refine Se.ab hs ?_|with_reducible refine Se.abc hs ?_);clear hs;(first|(generalize w.heap.size=g6;intro w hs)))|((first|with_reducible refine Se.ab hs ?_|with_reducible refine Se.abc hs ?_);clear hs;(first|(generalize w.heap.size=g11;intro w hs)))|(go_at_call 35;refine Calls.mono (CK.out _ _ hs) ?_;clear hs;rintro e w ⟨rfl,hs⟩))
  go_ret;exact⟨rfl,hs.drop.drop⟩
 by_cases h3:100<mo
 ·rw[<-hR,<-hEV]
  clear hR hEV hx hn h1 hca
  go_enter Tryz.func10,Tryz.ntmps10
  go_wp2_with (first|((with_reducible refine Se.iL 6 ?_);(refine Se.toL rfl (Se.bx (o:=⟨some 6,_,_,_,_,_⟩) hs rfl rfl (l:=R) rfl ?_);clear hs;rintro w g6-hs))|((with_reducible refine Se.iL 11 ?_);(refine Se.toL rfl (Se.bx (o:=⟨some 11,_,_,_,_,_⟩) hs rfl rfl (l:=EV) rfl ?_);clear hs;rintro w g11-hs))|((first|with_reducible refine Se.ab hs ?_|with_reducible refine Se.abc hs ?_);clear hs;(first|(generalize w.heap.size=g6;intro w hs)))|((first|with_reducible refine Se.ab hs ?_|with_reducible refine Se.abc hs ?_);clear hs;(first|(generalize w.heap.size=g11;intro w hs)))|(go_at_call 35;refine Calls.mono (CK.out _ _ hs) ?_;clear hs;rintro e w ⟨rfl,hs⟩))
  go_ret;exact⟨rfl,hs.drop.drop⟩
 obtain⟨m,rfl⟩:∃ m:Nat,mo=(m:Int):=⟨mo.toNat,by omega⟩
 have t2:¬ (m:Int)<0:=h2
 have t3:¬ (100:Int)<(m:Int):=h3
 have H1:=Lib.hid (show n<=12000/\m<=100 by omega)
 clear h1 h2 h3
 by_cases hv0:vB r=false\/31<al.toNat\/3<dg.toNat
 ·have CL:Hid (∀ (M:List At) (w:World),St w0 X M w->Calls Tryz.prog 43 #[.agg R.toArray,.int .u8 (n8 al),.int .u8 (n8 dg)] w fun e w'=>e=.returned (.tuple #[.pointer none,.agg #[.bool false,.bool false,.int .i64 0]])/\St w0 X M w'):=Lib.hid (fun M w hs=>by rw[hR];exact live_no hs r al dg hv0)
  obtain⟨b,hb⟩:∃ b,vB r=b:=⟨_,rfl⟩
  have CV:Hid (∀ (M:List At) (w:World),St w0 X M w->Calls Tryz.prog 25 #[.agg R.toArray] w fun e w'=>e=.returned (.bool b)/\St w0 X M w'):=Lib.hid (fun M w hs=>by rw[hR,<-hb];exact rvalid_st hs r)
  rw[hb] at hv0;rw[<-hR,<-hEV];clear hR hEV hx hn hb hca
  cases b with
  | false =>
   clear hv0
   go_enter Tryz.func10,Tryz.ntmps10
   go_wp2_with (first|((with_reducible refine Se.iL 6 ?_);(refine Se.toL rfl (Se.bx (o:=⟨some 6,_,_,_,_,_⟩) hs rfl rfl (l:=R) rfl ?_);clear hs;rintro w g6-hs))|((with_reducible refine Se.iL 11 ?_);(refine Se.toL rfl (Se.bx (o:=⟨some 11,_,_,_,_,_⟩) hs rfl rfl (l:=EV) rfl ?_);clear hs;rintro w g11-hs))|((with_reducible refine Se.iL 39 ?_);(refine Se.Ldw hs rfl rfl (Reads.blk 1 rfl) (by rw[RL.out];kernel_rfl) ?_))|((with_reducible refine Se.iL 47 ?_);(refine Se.Ldw hs rfl rfl (Reads.blk 2 rfl) (by rw[RL.out];kernel_rfl) ?_))|((with_reducible refine Se.iL 14 ?_);(refine Se.Al hs rfl (fm_z) ?_;clear hs;rintro w g14-hs))|((with_reducible refine Se.iN ?_);(refine Se.Sow 0 hs rfl rfl rfl rfl (by simp[Value.oneCell']) (by kernel_rfl) (rfl) ?_;clear hs;intro w hs;try simp only[pS] at hs))|((first|with_reducible refine Se.ab hs ?_|with_reducible refine Se.abc hs ?_);clear hs;(first|(generalize w.heap.size=g6;intro w hs)))|((first|with_reducible refine Se.ab hs ?_|with_reducible refine Se.abc hs ?_);clear hs;(first|(generalize w.heap.size=g11;intro w hs)))|(go_at_call 43;refine Calls.mono (CL.out _ _ hs) ?_;clear hs;rintro e w ⟨rfl,hs⟩)|(go_at_call 25;refine Calls.mono (CV.out _ _ hs) ?_;clear hs;rintro e w ⟨rfl,hs⟩)|(go_at_call 35;refine Calls.mono (CK.out _ _ hs) ?_;clear hs;rintro e w ⟨rfl,hs⟩))
   go_ret;exact⟨rfl,hs.drop.drop.drop⟩
  | true =>
   by_cases ha:31<al.toNat
   ·have d1:(31:Int)<n8 al:=by show(31:Int)<(al.toNat:Int);omega
    clear hv0 ha
    go_enter Tryz.func10,Tryz.ntmps10
    go_wp2_with (first|((with_reducible refine Se.iL 6 ?_);(refine Se.toL rfl (Se.bx (o:=⟨some 6,_,_,_,_,_⟩) hs rfl rfl (l:=R) rfl ?_);clear hs;rintro w g6-hs))|((with_reducible refine Se.iL 11 ?_);(refine Se.toL rfl (Se.bx (o:=⟨some 11,_,_,_,_,_⟩) hs rfl rfl (l:=EV) rfl ?_);clear hs;rintro w g11-hs))|((with_reducible refine Se.iL 39 ?_);(refine Se.Ldw hs rfl rfl (Reads.blk 1 rfl) (by rw[RL.out];kernel_rfl) ?_))|((with_reducible refine Se.iL 47 ?_);(refine Se.Ldw hs rfl rfl (Reads.blk 2 rfl) (by rw[RL.out];kernel_rfl) ?_))|((with_reducible refine Se.iL 14 ?_);(refine Se.Al hs rfl (fm_z) ?_;clear hs;rintro w g14-hs))|((with_reducible refine Se.iN ?_);(refine Se.Sow 0 hs rfl rfl rfl rfl (by simp[Value.oneCell']) (by kernel_rfl) (rfl) ?_;clear hs;intro w hs;try simp only[pS] at hs))|((first|with_reducible refine Se.ab hs ?_|with_reducible refine Se.abc hs ?_);clear hs;(first|(generalize w.heap.size=g6;intro w hs)))|((first|with_reducible refine Se.ab hs ?_|with_reducible refine Se.abc hs ?_);clear hs;(first|(generalize w.heap.size=g11;intro w hs)))|(go_at_call 43;refine Calls.mono (CL.out _ _ hs) ?_;clear hs;rintro e w ⟨rfl,hs⟩)|(go_at_call 25;refine Calls.mono (CV.out _ _ hs) ?_;clear hs;rintro e w ⟨rfl,hs⟩)|(go_at_call 35;refine Calls.mono (CK.out _ _ hs) ?_;clear hs;rintro e w ⟨rfl,hs⟩))
    go_ret;exact⟨rfl,hs.drop.drop.drop⟩
   ·have d1:¬ (31:Int)<n8 al:=by show ¬ (31:Int)<(al.toNat:Int);omega
    have d2:(3:Int)<n8 dg:=by
     show(3:Int)<(dg.toNat:Int)
     rcases hv0 with h|h|h
     ·cases h
     ·exact absurd h ha
     ·omega
    clear hv0 ha
    go_enter Tryz.func10,Tryz.ntmps10
    go_wp2_with (first|((with_reducible refine Se.iL 6 ?_);(refine Se.toL rfl (Se.bx (o:=⟨some 6,_,_,_,_,_⟩) hs rfl rfl (l:=R) rfl ?_);clear hs;rintro w g6-hs))|((with_reducible refine Se.iL 11 ?_);(refine Se.toL rfl (Se.bx (o:=⟨some 11,_,_,_,_,_⟩) hs rfl rfl (l:=EV) rfl ?_);clear hs;rintro w g11-hs))|((with_reducible refine Se.iL 39 ?_);(refine Se.Ldw hs rfl rfl (Reads.blk 1 rfl) (by rw[RL.out];kernel_rfl) ?_))|((with_reducible refine Se.iL 47 ?_);(refine Se.Ldw hs rfl rfl (Reads.blk 2 rfl) (by rw[RL.out];kernel_rfl) ?_))|((with_reducible refine Se.iL 14 ?_);(refine Se.Al hs rfl (fm_z) ?_;clear hs;rintro w g14-hs))|((with_reducible refine Se.iN ?_);(refine Se.Sow 0 hs rfl rfl rfl rfl (by simp[Value.oneCell']) (by kernel_rfl) (rfl) ?_;clear hs;intro w hs;try simp only[pS] at hs))|((first|with_reducible refine Se.ab hs ?_|with_reducible refine Se.abc hs ?_);clear hs;(first|(generalize w.heap.size=g6;intro w hs)))|((first|with_reducible refine Se.ab hs ?_|with_reducible refine Se.abc hs ?_);clear hs;(first|(generalize w.heap.size=g11;intro w hs)))|(go_at_call 43;refine Calls.mono (CL.out _ _ hs) ?_;clear hs;rintro e w ⟨rfl,hs⟩)|(go_at_call 25;refine Calls.mono (CV.out _ _ hs) ?_;clear hs;rintro e w ⟨rfl,hs⟩)|(go_at_call 35;refine Calls.mono (CK.out _ _ hs) ?_;clear hs;rintro e w ⟨rfl,hs⟩))
    go_ret;exact⟨rfl,hs.drop.drop.drop⟩
 obtain⟨hv,ha,hd⟩:vB r=true/\al.toNat<=31/\dg.toNat<=3:=by
  simp only[not_or,Nat.not_lt,Bool.not_eq_false] at hv0;exact hv0
 clear hv0
 have hc:=(vB_ok hv).2
 have ral:=rwl_al hv
 have rmd:(rwl r)[4]? = some (iv (cfR r).md):=by rw[(vB_ok hv).1];rfl
 obtain⟨c,hcc⟩:∃ c,c=cfR r:=⟨_,rfl⟩
 rw[<-hcc] at hc ral rmd
 obtain⟨md,hmd⟩:∃ md,md=c.md:=⟨_,rfl⟩
 obtain⟨q,hq⟩:∃ q,q=n+m:=⟨_,rfl⟩
 obtain⟨q1,hq1⟩:∃ q1,q1=q+1:=⟨_,rfl⟩
 obtain⟨kk,hkk⟩:∃ kk,kk=cnt n md:=⟨_,rfl⟩
 obtain⟨k,hk⟩:∃ k,k=kk+1:=⟨_,rfl⟩
 have hmd1:=hc.m1
 have hmd2:=hc.md
 rw[<-hmd] at hmd1 hmd2 rmd
 have hn12:=H1.out.1
 have hm100:=H1.out.2
 have hkk3:kk<=3:=by rw[hkk];exact(cnt_le (by omega)).2 (by omega)
 obtain⟨u1,u2,f1,b0,o0,b1,o1,fl2,f2,s2,r2,x2,p2,o2⟩:=replies_plain hc ha hd en da he (by omega) (q:=q) (by omega) (by omega)
 obtain⟨s0,hs0⟩:∃ s,s=liveE c al dg:=⟨_,rfl⟩
 obtain⟨F,hF⟩:∃ F,F=fl (lfE c al dg):=⟨_,rfl⟩
 obtain⟨F2,hF2⟩:∃ F,F=fl (owE c dg):=⟨_,rfl⟩
 obtain⟨EB,hEB⟩:∃ E,E=(entE 2#8 9#16 q 90#8).map v8:=⟨_,rfl⟩
 obtain⟨E1,hE1⟩:∃ b,b=enc (rdP 9#16 q) (owE c dg):=⟨_,rfl⟩
 obtain⟨e1,he1⟩:∃ n,n=E1.length:=⟨_,rfl⟩
 obtain⟨ps,hps⟩:∃ ps,ps=repL c 9#16 en da:=⟨_,rfl⟩
 obtain⟨E3,hE3⟩:∃ b,b=encs (lfE c al dg) ps:=⟨_,rfl⟩
 obtain⟨e3,he3⟩:∃ n,n=E3.length:=⟨_,rfl⟩
 obtain⟨u3,hu3⟩:∃ t,t={ u2 with out:=[] }:=⟨_,rfl⟩
 rw[<-hs0,<-hE1] at f1;rw[<-hs0] at b0 o0;rw[<-hps,<-hE3] at o2
 have hf1:=framed_fm (d:=digE c dg) hc.al
 have hf3:=framed_lf (c:=c) (dg:=dg) ha
 have hle1:e1<=4194304:=by rw[he1,hE1];exact Nat.le_trans (enc_le hf1 (rd_valid 9#16 q)) (by decide)
 have hpl:ps.length=k:=by rw[hps,repL_len hc,hk,hkk,hn,hmd]
 have hpv:∀ p∈ps,Pd.valid p=true:=by rw[hps];exact repL_valid hc 9#16 he da
 have hle3:e3<=4194304:=by
  have h:=encs_small hf3 (d:=12000) ps (fun p hp=>⟨hpv p hp,Nat.le_trans (by rw[hps] at hp;exact repL_da hc 9#16 en da p hp) (by omega)⟩)
  rw[hpl] at h;rw[he3,hE3];refine Nat.le_trans h ?_
  have:(12000+260)*k<=(12000+260)*4:=Nat.mul_le_mul_left _ (by omega)
  omega
 have FL:=Lib.hid (show F.length=3 by rw[hF];rfl)
 have FO:=Lib.hid (show ∀ v∈F,v.oneCell'=true by rw[hF];simp[fl,Value.oneCell'])
 have F2L:=Lib.hid (show F2.length=3 by rw[hF2];rfl)
 have FS:=Lib.hid (show F.set 2 (.int .i64 c.al)=F2 by rw[hF,hF2];rfl)
 have EBL:=Lib.hid (show EB.length=64 by rw[hEB,List.length_map];exact entK_len _ _ _ _ 4)
 have EBO:=Lib.hid (show ∀ v∈EB,v.oneCell'=true by rw[hEB];intro v hv;obtain⟨b,_,rfl⟩:=List.mem_map.1 hv;rfl)
 have R2:=Lib.hid (show R[2]? = some (.int .i64 c.al) by rw[hR];exact ral)
 have R4:=Lib.hid (show R[4]? = some (iv md) by rw[hR];exact rmd)
 have CL:Hid (∀ (g11 g6:Nat) w,St w0 X (.blk g11 98 EV::.blk g6 23 R::L) w->Calls Tryz.prog 43 #[.agg R.toArray,.int .u8 (n8 al),.int .u8 (n8 dg)] w fun e w'=>∃ g f,e=.returned (.tuple #[.pointer (some ⟨g,0,none⟩),.agg F.toArray])/\Hid (OkP s0 f.k)/\St w0 X (.blk g11 98 EV::.blk g6 23 R::FF g s0 f L) w'):=Lib.hid (fun g11 g6 w hs=>by
  rw[hF,hs0,hcc,<-Pd.fv_eq]
  have h:=live_d (N:=[.blk g11 98 EV,.blk g6 23 R]) hs r al dg hv ha hd
  rw[hR];rw[hR] at h;exact h)
 have CEn:Hid (∀ (M:List At) w,St w0 X M w->Calls Tryz.prog 29 #[.int .u8 2,.int .u16 9,.int .i64 (q:Nat),.int .u8 90] w fun e w'=>e=.returned (.agg EB.toArray)/\St w0 X M w'):=Lib.hid (fun M w hs=>by rw[hEB];exact entry_st hs 2#8 9#16 q 90#8 (by omega))
 have CCm:Hid (∀ (M:List At) w,St w0 X M w->Calls Tryz.prog 44 #[.agg F2.toArray,.agg EB.toArray,.slice none 0 0] w fun e w'=>∃ r B c',e=.returned (.slice B e1 c')/\St w0 X (.own 1 r B e1 c' (E1.map v8)::M) w'):=Lib.hid (fun M w hs=>by
  rw[hF2,hEB,hE1,<-Pd.fv_eq];exact lcmd_st hs (owE c dg) (entE 2#8 9#16 q 90#8) [] (entK_len _ _ _ _ 4) rfl Reads.nil hf1 (rd_valid 9#16 q) (by rw[he1,hE1];rfl))
 have CF1:Hid (∀ (a1 a2 a3 a4 a5:At) (r:Option Nat) (B:Option Addr) (c' g:Nat) (f:Pf) w,Hid (OkP s0 f.k)->St w0 X (.own 1 r B e1 c' (E1.map v8)::a1::a2::a3::a4::a5::FF g s0 f L) w->Calls Tryz.prog 37 #[.pointer (some ⟨g,0,none⟩),.slice B e1 c'] w fun e' w'=>∃ RB rc rq rl f',e'=.returned (.tuple #[.slice RB 1 rc,iv 0])/\Hid (rqo rl=[⟨9#16,entE 2#8 9#16 q 90#8,[],q⟩]/\∀ x∈rl,x.1.en.length=64)/\Hid (OkP u1 f'.k)/\St w0 X (a1::a2::a3::a4::a5::.own 67 rq RB 1 rc (rqs rl)::(qAs rl++FF g u1 f' L)) w'):=Lib.hid (fun a1 a2 a3 a4 a5 r B c' g f w ok hs=>by
  refine(feed_k (N:=[.own 1 r B e1 c' (E1.map v8),a1,a2,a3,a4,a5]) hs ok.out b0 E1 he1 (Reads.own 0 rfl) hle1 (by rw[o0];decide) f1 (m:=1) rfl).mono ?_;rintro e' w' ⟨RB,rc,rq,rl,f',h1,h2,h3,h4⟩;refine⟨RB,rc,rq,rl,f',h1,h2,h3,?_⟩
  have h5:=h4.sub (L':=.own 67 rq RB 1 rc (rqs rl)::(qAs rl++([a1,a2,a3,a4,a5]++FF g u1 f' L))) (List.Sublist.cons_cons _ (List.Sublist.append_left (List.Sublist.cons _ (List.Sublist.refl _)) _))
  exact h5.perm (List.perm_append_comm_assoc (.own 67 rq RB 1 rc (rqs rl)::qAs rl) [_,_,_,_,_] _))
 have CR1:Hid (∀ (a1 a2 a3 a4 a5 a6:At) (Q:List At) (gz g:Nat) (f:Pf) w,Hid (OkP u1 f.k)->St w0 X (.blk gz 5 ((Pd.zs q1).map v8)::a1::a2::a3::a4::a5::a6::(Q++FF g u1 f L)) w->Calls Tryz.prog 46 #[.pointer (some ⟨g,0,none⟩),.int .u16 9,.agg EV.toArray,.slice (some ⟨gz,0,none⟩) q1 q1] w fun e' w'=>∃ f',e'=.returned (iv 5)/\Hid (OkP u1 f'.k)/\St w0 X (a1::a2::a3::a4::a5::a6::(Q++FF g u1 f' L)) w'):=Lib.hid (fun a1 a2 a3 a4 a5 a6 Q gz g f w ok hs=>by
  rw[hEV];refine(reply_d (N:=.blk gz 5 ((Pd.zs q1).map v8)::a1::a2::a3::a4::a5::a6::Q) hs ok.out b1.i 9#16 en (Pd.zs q1) he (List.length_replicate ..).symm (Reads.blk 0 rfl) (fun _=>⟨_,_,rfl⟩) (Nat.le_refl _) (by omega) (by rw[o1];decide) (s':=u1) (e:=5) (by rw[hq1];exact fl2)).mono ?_;rintro e' w' ⟨f',h1,h2,h3⟩;exact⟨f',h1,h2,h3.drop⟩)
 have CR2:Hid (∀ (a1 a2 a3 a4 a5 a6:At) (Q:List At) (g:Nat) (f:Pf) w,Hid (OkP u1 f.k)->St w0 X (a1::a2::a3::a4::a5::a6::(Q++FF g u1 f L)) w->Calls Tryz.prog 46 #[.pointer (some ⟨g,0,none⟩),.int .u16 9,.agg EV.toArray,.slice A n ca] w fun e' w'=>∃ f',e'=.returned (iv 0)/\Hid (OkP u2 f'.k)/\St w0 X (a1::a2::a3::a4::a5::a6::(Q++FF g u2 f' L)) w'):=Lib.hid (fun a1 a2 a3 a4 a5 a6 Q g f w ok hs=>by
  rw[hEV];exact reply_d (N:=a1::a2::a3::a4::a5::a6::Q) hs ok.out b1.i 9#16 en da he hn ((hx.app Q).app [_,_,_,_,_,_]) (fun h0=>rd_addr (hx.mono (fun a ha=>List.mem_cons_of_mem _ (List.mem_cons_of_mem _ (List.mem_cons_of_mem _ (List.mem_cons_of_mem _ (List.mem_cons_of_mem _ (List.mem_cons_of_mem _ (List.mem_append_right _ (FF_sub.subset ha)))))))) _ hs.hold) (by rw[List.length_map,<-hn];exact h0)) hca (by omega) (by rw[o1];decide) f2)
 have CO3:Hid (∀ (a1 a2 a3 a4 a5 a6:At) (Q:List At) (g:Nat) (f:Pf) w,Hid (OkP u2 f.k)->St w0 X (a1::a2::a3::a4::a5::a6::(Q++FF g u2 f L)) w->Calls Tryz.prog 39 #[.pointer (some ⟨g,0,none⟩)] w fun e' w'=>∃ B r c f',e'=.returned (.slice B e3 c)/\Hid (OkP u3 f'.k)/\St w0 X (.own 1 r B e3 c (E3.map v8)::a1::a2::a3::a4::a5::a6::(Q++FF g u3 f' L)) w'):=Lib.hid (fun a1 a2 a3 a4 a5 a6 Q g f w ok hs=>output_d (N:=a1::a2::a3::a4::a5::a6::Q) hs ok.out (by rw[o2,he3]) o2 hu3)
 have CP3:Hid (∀ (M:List At) (r:Option Nat) (B:Option Addr) (c':Nat) w,St w0 X (.own 1 r B e3 c' (E3.map v8)::M) w->Calls Tryz.prog 45 #[.slice B e3 c',.agg F.toArray] w fun e w'=>∃ OB ro oc l R',e=.returned (.tuple #[.slice OB k oc,.bool true])/\Hid (l.map (·.1)=ps/\RdP (R'++M) l)/\St w0 X (.own 14 ro OB k oc (pcs l)::(R'++M)) w'):=Lib.hid (fun M r B c' w hs=>by
  rw[hE3] at hs;rw[hF,<-Pd.fv_eq];exact parse_d hs hf3 hpv (by omega) (by rw[he3,hE3]) hle3 hpl)
 have CI3:Hid (∀ (N R' Q:List At) (g:Nat) (f:Pf) w,Hid (OkP u3 f.k)->St w0 X (N++(R'++(Q++FF g u3 f L))) w->Calls Tryz.prog 41 #[.pointer (some ⟨g,0,none⟩),.int .i64 2,.int .i64 0,.slice none 0 0] w fun e' w'=>e'=.returned (.bool true)/\St w0 X (N++(R'++(Q++FF g u3 f L))) w'):=Lib.hid (fun N R' Q g f w ok hs=>by
  rw[<-List.append_assoc,<-List.append_assoc] at hs ⊢;exact is_z hs ok.out (by rw[hu3];exact x2) (by rw[hu3];exact p2) (by rw[hu3];show(u2.st:Int)=2;rw[s2];rfl) (by rw[hu3];show(u2.re:Int)=0;rw[r2];rfl))
 have BQ:Hid (∀ (w:World),(Instr.build 96 #[(0,.int .u16 9),(1,.agg EB.toArray),(3,.int .i64 (q:Nat))]).run Tryz.prog w=.ok (.agg (Value.int .u16 9::(EB++[Value.slice none 0 0,Value.int .i64 (q:Nat)])).toArray) w):=Lib.hid (bd_rq4 9 EB EBL.out q)
 have CS:Hid (∀ (M:List At) (rl:List (Rq × Th)) (RB:Option Addr) (rc g2:Nat) w,Hid (rqo rl=[⟨9#16,entE 2#8 9#16 q 90#8,[],q⟩]/\∀ x∈rl,x.1.en.length=64)->Reads M RB (rqs rl)->(∀ p∈rl,Reads M p.2.A (p.1.da.map v8))->Reads M (some ⟨g2,0,none⟩) (Value.int .u16 9::(EB++[Value.slice none 0 0,Value.int .i64 (q:Nat)]))->St w0 X M w->Calls Tryz.prog 40 #[.slice RB 1 rc,.slice (some ⟨g2,0,none⟩) 1 1] w fun e w'=>e=.returned (.bool true)/\St w0 X M w'):=Lib.hid (fun M rl RB rc g2 w h hX hD hY hs=>by
  have hl:rl.length=1:=by have:=congrArg List.length h.out.1;simpa [rqo] using this
  rw[hEB] at hY;refine same_one hs h.out.1 h.out.2 (rd_addr (hX _ hs.hold) ?_) hX hD (n:=0) rfl hY Reads.nil
  obtain⟨x,rfl⟩:=List.length_eq_one_iff.1 hl
  unfold rqs;rw[List.flatMap_singleton];exact Nat.succ_pos _)
 have HG:Hid (∀ i,i<kk->ps[i]? = some (chk md 9#16 da (i*md))):=Lib.hid (fun i hi=>by rw[hps,hmd];exact repL_chk hc 9#16 en da (by rw[<-hn,<-hmd,<-hkk];exact hi))
 have HL:Hid (ps[kk]? = some { h:={ k:=5#8 },en:=en }):=Lib.hid (by
  have h:=repL_last hc 9#16 en da
  rw[<-hn,<-hmd,<-hkk] at h;rw[hps];exact h)
 have HK:Hid ((∀ i,i<kk↔i*md<n)/\∀ i,kk<=i↔n<=i*md):=Lib.hid (by rw[hkk];exact⟨fun i=>cnt_lt (by omega),fun i=>cnt_le (by omega)⟩)
 have HB:=Lib.hid (And.intro hmd1 (And.intro hmd2 (And.intro hkk3 (And.intro hk (And.intro hq (And.intro hq1 hn12))))))
 have HN:=Lib.hid hn
 have HX:=Lib.hid hx
 have HEN:=Lib.hid (And.intro hEV he)
 have wq:IntKind.i64.wrap ((n:Int)+(m:Int))=(q:Int):=by rw[IntWalk.i64_in _ (by omega)];omega
 have wq1:IntKind.i64.wrap ((q:Int)+1)=(q1:Int):=by rw[IntWalk.i64_in _ (by omega)];omega
 have wk:IntKind.i64.wrap ((k:Int)-1)=(kk:Int):=by rw[IntWalk.i64_in _ (by omega)];omega
 have wk1:IntKind.i64.wrap ((kk:Int)+1)=(k:Int):=by rw[IntWalk.i64_in _ (by omega)];omega
 obtain⟨nm,hnm⟩:∃ x,x=n+md:=⟨_,rfl⟩
 obtain⟨nm1,hnm1⟩:∃ x,nm=x+1:=⟨nm-1,by omega⟩
 have wnm:IntKind.i64.wrap ((n:Int)+(md:Int))=(nm:Int):=by rw[IntWalk.i64_in _ (by omega)];omega
 have wnm1:IntKind.i64.wrap ((nm:Int)-1)=(nm1:Int):=by rw[IntWalk.i64_in _ (by omega)];omega
 have wqu:Int.tdiv (nm1:Int) (md:Int)=(kk:Int):=by
  rw[hkk];unfold cnt;rw[show n+md-1=nm1 by omega];exact(Int.ofNat_tdiv nm1 md).symm
 have wkk:IntKind.i64.wrap (kk:Int)=(kk:Int):=IntWalk.i64_in _ (by omega)
 have dmd:((md:Int)==0)=false:=by simp;omega
 have dmd1:¬ (md:Int)=0:=by omega
 have dmd2:¬ md=0:=by omega
 rw[<-hR,<-hEV];clear hR hv ral rmd hcc f1 b0 o0 b1 o1 fl2 f2 s2 r2 x2 p2 o2 hs0 hF hF2 hEB hE1 he1 hE3 he3 hu3 hf1 hf3 hle1 hpl hpv hle3 hps hn hx hca hc hmd hq hq1 hkk hk hmd1 hmd2 hn12 hm100 hkk3 ha hd he hEV hnm hnm1
 go_enter Tryz.func10,Tryz.ntmps10
 go_upto_region 10 with (first|((with_reducible refine Se.iL 6 ?_);(refine Se.toL rfl (Se.bx (o:=⟨some 6,_,_,_,_,_⟩) hs rfl rfl (l:=R) rfl ?_);clear hs;rintro w g6-hs))|((with_reducible refine Se.iL 11 ?_);(refine Se.toL rfl (Se.bx (o:=⟨some 11,_,_,_,_,_⟩) hs rfl rfl (l:=EV) rfl ?_);clear hs;rintro w g11-hs))|((with_reducible refine Se.iL 39 ?_);(refine Se.Ldw hs rfl rfl (Reads.blk 1 rfl) (by rw[RL.out];kernel_rfl) ?_))|((with_reducible refine Se.iL 14 ?_);(refine Se.Al hs rfl (fm_z) ?_;clear hs;rintro w g14-hs))|((with_reducible refine Se.iL 15 ?_);(refine Se.Al hs rfl (fm_z) ?_;clear hs;rintro w g15-hs))|((with_reducible refine Se.iL 16 ?_);(refine Se.Al hs rfl (arr_z) ?_;clear hs;rintro w g16-hs))|((with_reducible refine Se.isL (o:=⟨none,Op.store 54 _ _,_,_,_,_⟩) ?_);(refine Se.Sow 0 hs rfl rfl rfl rfl (FO.out) (by rw[FL.out];kernel_rfl) (by rw[FL.out];rfl) ?_;clear hs;intro w hs;try simp only[pS] at hs))|((with_reducible refine Se.isL (o:=⟨none,Op.store 37 _ _,_,_,_,_⟩) ?_);(refine Se.Sow 0 hs rfl rfl rfl rfl (EBO.out) (by rw[EBL.out];kernel_rfl) (by rw[EBL.out];rfl) ?_;clear hs;intro w hs;try simp only[pS] at hs))|((with_reducible refine Se.iL 61 ?_);(refine Se.Ldw hs rfl rfl (Reads.blk 0 rfl) (by rw[FL.out];kernel_rfl) ?_))|((with_reducible refine Se.iL 63 ?_);(refine Se.Ld hs rfl rfl (Cell.blk 3 rfl R2.out) ?_))|((with_reducible refine Se.isL (o:=⟨none,Op.store 3 _ _,_,_,_,_⟩) ?_);(refine Se.Soq 0 hs rfl rfl rfl (by rw[FL.out];omega) (FS.out) ?_;clear hs;intro w hs;try simp only[pS] at hs))|((with_reducible refine Se.iL 72 ?_);(refine Se.Ldw hs rfl rfl (Reads.blk 1 rfl) (by rw[F2L.out];kernel_rfl) ?_))|((with_reducible refine Se.iL 73 ?_);(refine Se.Ldw hs rfl rfl (Reads.blk 0 rfl) (by rw[EBL.out];kernel_rfl) ?_))|((first|with_reducible refine Se.ab hs ?_|with_reducible refine Se.abc hs ?_);clear hs;(first|(generalize w.heap.size=g6;intro w hs)))|((first|with_reducible refine Se.ab hs ?_|with_reducible refine Se.abc hs ?_);clear hs;(first|(generalize w.heap.size=g11;intro w hs)))|(go_at_call 43;refine Calls.mono (CL.out _ _ _ hs) ?_;clear hs;rintro e w ⟨g,f,rfl,ok,hs⟩)|(go_at_call 29;refine Calls.mono (CEn.out _ _ hs) ?_;clear hs;rintro e w ⟨rfl,hs⟩)|(go_at_call 44;refine Calls.mono (CCm.out _ _ hs) ?_;clear hs;rintro e w ⟨r1,B1,c1,rfl,hs⟩)|(go_at_call 37;refine Calls.mono (CF1.out _ _ _ _ _ _ _ _ _ _ _ ok hs) ?_;clear hs;rintro e w ⟨RB1,rc1,rq1,rl1,f1,rfl,hrl,ok1,hs⟩))
 clear CL CEn CCm CF1 ok;refine Ch.region' 10 (fun wx=>Blk wx g11 EV 98) (fun|7=>true|8=>true|_=>false) (by kernel_rfl) (by decide +kernel) (hs.drew.hold (.blk g11 98 EV) (by simp)) ?_;replace hs:=hs.drew;generalize w.drew=w at hs ⊢;change Ch.CW _ _ _ _ _ [0,1,2,3,4,5,6,7,8,9] _ _
 iterate 7 ((first|refine Ch.pA ?_|refine Ch.pE (hv:=fun wx hS=>Se.xR (hr:=(Li.Rd.of_blk hS)) (hi:=(by rw[EVL.out];kernel_rfl))) (h:=?_));(try simp only[pU]))
 refine Ch.nA (h:=Se.mk hs rfl Tryz.underlying24 Pd.u8i3 rfl q1 q1 rfl rfl rfl rfl (Nat.le_refl _) (by have:=HB.out;omega) (by have:=HB.out;omega) ?_);clear hs;rintro w gz-hs;change St w0 X (.blk gz 5 (List.replicate q1 [Value.int .u8 0]).flatten::_) w at hs;rw[zs_v8] at hs;refine⟨hs.hold (.blk g11 98 EV) (by simp),?_⟩;(try simp only[pU]);refine Ch.cA (f:=46) (args:=#[.pointer (some ⟨g,0,none⟩),.int .u16 9,.agg EV.toArray,.slice (some ⟨gz,0,none⟩) q1 q1]) (CR1.out _ _ _ _ _ _ _ _ _ _ _ ok1 hs) ?_;clear hs;rintro e w⟨f2,rfl,ok2,hs⟩;refine⟨_,rfl,hs.hold (.blk g11 98 EV) (by simp),?_⟩;(try simp only[pU])
 iterate 1 (refine Ch.pA ?_;(try simp only[pU]))
 refine Ch.done ?_
 try simp only[List.drop_succ_cons,List.drop_zero]
 clear CR1 ok1
 go_upto_region 12 with (first|((with_reducible refine Se.iL 88 ?_);(refine Se.Ldw hs rfl rfl (Reads.blk 3 rfl) (by rw[EVL.out];kernel_rfl) ?_))|(go_at_call 46;refine Calls.mono (CR2.out _ _ _ _ _ _ _ _ _ _ ok2 hs) ?_;clear hs;rintro e w ⟨f3,rfl,ok3,hs⟩))
 clear CR2 ok2;refine Ch.region' 9 (fun wx=>Blk wx g14 F 54) (fun|1=>true|3=>true|_=>false) (by kernel_rfl) (by decide +kernel) (hs.drew.hold (.blk g14 54 F) (by simp)) ?_;replace hs:=hs.drew;generalize w.drew=w at hs ⊢;change Ch.CW _ _ _ _ _ [0,1,2,3,4,5,6,7,8] _ _
 iterate 1 (refine Ch.pA ?_;(try simp only[pU]))
 refine Ch.cA (f:=39) (args:=#[.pointer (some ⟨g,0,none⟩)]) (CO3.out _ _ _ _ _ _ _ _ _ _ ok3 hs) ?_;clear hs;rintro e w⟨B3,r3,c3,f4,rfl,ok4,hs⟩;refine⟨_,rfl,hs.hold (.blk g14 54 F) (by simp),?_⟩;(try simp only[pU])
 iterate 1 ((first|refine Ch.pA ?_|refine Ch.pE (hv:=fun wx hS=>Se.xR (hr:=(Li.Rd.of_blk hS)) (hi:=(by rw[FL.out];kernel_rfl))) (h:=?_));(try simp only[pU]))
 refine Ch.cA (f:=45) (args:=#[.slice B3 e3 c3,.agg F.toArray]) (CP3.out _ _ _ _ _ hs) ?_;clear hs;rintro e w⟨OB,ro,oc,l,R',rfl,hl,hs⟩;refine⟨_,rfl,hs.hold (.blk g14 54 F) (by simp),?_⟩;(try simp only[pU])
 iterate 5 (refine Ch.pA ?_;(try simp only[pU]))
 refine Ch.done ?_
 try simp only[List.drop_succ_cons,List.drop_zero]
 clear CO3 CP3 ok3;replace hs:=hs.perm (L':=.own 14 ro OB k oc (pcs l)::.blk g11 98 EV::.blk g16 37 EB::.blk g6 23 R::.own 67 rq1 RB1 1 rc1 (rqs rl1)::.blk g15 54 F2::.blk g14 54 F::(R'++(qAs rl1++FF g u3 f4 L))) (by
  exact List.Perm.cons _ ((List.perm_append_comm_assoc R' [_,_,_,_,_,_] _).trans ((List.perm_append_comm_assoc [_,_,_] [_] _).trans (List.Perm.cons _ (List.Perm.cons _ (List.perm_append_comm_assoc [_,_] [_,_] _))))))
 have QR:Hid (∀ p∈rl1,Reads (qAs rl1) p.2.A (p.1.da.map v8)):=Lib.hid (fun p hp=>by
  obtain⟨i,hi⟩:=List.getElem?_of_mem (List.mem_map.2 ⟨p,hp,rfl⟩:qA p∈qAs rl1)
  exact Reads.own i hi)
 obtain⟨T2,hT2⟩:∃ T,T=.blk g16 37 EB::.blk g6 23 R::.own 67 rq1 RB1 1 rc1 (rqs rl1)::.blk g15 54 F2::.blk g14 54 F::(R'++(qAs rl1++FF g u3 f4 L)):=⟨_,rfl⟩
 have CI4:Hid (∀ (N:List At) w,St w0 X (N++T2) w->Calls Tryz.prog 41 #[.pointer (some ⟨g,0,none⟩),.int .i64 2,.int .i64 0,.slice none 0 0] w fun e' w'=>e'=.returned (.bool true)/\St w0 X (N++T2) w'):=Lib.hid (fun N w hs=>by
  have e:N++T2=(N++[.blk g16 37 EB,.blk g6 23 R,.own 67 rq1 RB1 1 rc1 (rqs rl1),.blk g15 54 F2,.blk g14 54 F])++(R'++(qAs rl1++FF g u3 f4 L)):=by rw[List.append_assoc,hT2];rfl
  rw[e] at hs ⊢;exact CI3.out _ R' (qAs rl1) g f4 w ok4 hs)
 have HRD:Hid (∀ x∈l,∀ N:List At,Reads (N++(.blk g11 98 EV::T2)) x.2.EA (x.1.en.map v8)/\Reads (N++(.blk g11 98 EV::T2)) x.2.DA (x.1.da.map v8)):=Lib.hid (fun x hx N=>by
  obtain⟨h1,h2⟩:=hl.out.2 x hx
  constructor
  ·refine h1.mono (fun a ha=>?_)
   rw[hT2];simp only[List.mem_append,List.mem_cons] at ha ⊢
   rcases ha with ha|ha|ha|ha|ha|ha|ha|ha|ha <;> simp[ha]
  ·refine h2.mono (fun a ha=>?_)
   rw[hT2];simp only[List.mem_append,List.mem_cons] at ha ⊢
   rcases ha with ha|ha|ha|ha|ha|ha|ha|ha|ha <;> simp[ha])
 have HSUB:Hid (L.Sublist T2):=Lib.hid (by
  rw[hT2];exact List.Sublist.cons _ (List.Sublist.cons _ (List.Sublist.cons _ (List.Sublist.cons _ (List.Sublist.cons _ (List.sublist_append_of_sublist_right (List.sublist_append_of_sublist_right FF_sub)))))))
 have HT2:=Lib.hid hT2
 clear CI3 hT2
 go_wp2_with (first|((with_reducible refine Se.iL 102 ?_);(refine Se.Ldw hs rfl rfl (Reads.blk 2 rfl) (by rw[EBL.out];kernel_rfl) ?_))|((with_reducible refine Se.iL 107 ?_);(refine Se.Bd rfl rfl (BQ.out _) ?_))|((with_reducible refine Se.iL 108 ?_);(refine Se.toL rfl (Se.bs1 (o:=⟨some 108,_,_,_,_,_⟩) hs rfl Tryz.underlying86 rq_i3 (by decide) (by decide) rfl (by simp[EBL.out]) ?_);clear hs;rintro w g108-hs))|((with_reducible refine Se.iL 130 ?_);(refine Se.Ld hs rfl rfl (Cell.blk 4 rfl R4.out) ?_))|((with_reducible refine Se.iL 134 ?_);(refine Se.Ld hs rfl rfl (Cell.blk 4 rfl R4.out) ?_))|(go_at_call 40;refine Calls.mono (CS.out _ _ _ _ _ _ hrl (Reads.own 5 rfl) (fun p hp=>(QR.out p hp).mono (fun a ha=>by simp[ha])) (Reads.blk 0 rfl) hs) ?_;clear hs;rintro e w ⟨rfl,hs⟩))
 clear CS QR BQ hrl wqu wnm wnm1 dmd dmd1 dmd2;replace hs:=hs.drop;rw[<-HT2.out] at hs;clear HT2
 obtain⟨go,oo,rfl,rfl⟩:=hs.own_at 0 rfl (by have:=HB.out;omega)
 go_loopg [23,24] (kk-0) (fun gh s23 s24 wr=>∃ (i gl gc:Nat) (gr:Option Nat) (GB:Option Addr),gh=kk-i/\i<=kk/\s23=.slice GB gl gc/\s24=.int .i64 (i:Nat)/\Hid (gl=min (i*md) n)/\St w0 X (.own 1 gr GB gl gc ((da.take gl).map v8)::.own 14 (some go) (some ⟨go,oo,none⟩) k oc (pcs l)::.blk g11 98 EV::T2) wr)
 case atStart=>exact⟨0,0,0,none,none,rfl,Nat.zero_le _,rfl,rfl,Lib.hid (by simp),hs.nil_own 1 none⟩
 case round =>
  clear hs
  rename World=>w
  obtain⟨i,gl,gc,gr,GB,rfl,hi,rfl,rfl,HGL,hs⟩:=hrel
  by_cases hlt:i<kk
  ·have hlt':(i:Int)<(kk:Int):=by omega
   obtain⟨im,him⟩:∃ im,im=i*md:=⟨_,rfl⟩
   have him2:im<n:=by rw[him];exact(HK.out.1 i).1 hlt
   obtain rfl:gl=im:=by rw[HGL.out,<-him];omega
   obtain⟨ta,hta⟩:∃ ta,l[i]? = some (chk md 9#16 da gl,ta):=by
    have h:=HG.out i hlt
    rw[<-hl.out.1,List.getElem?_map,Option.map_eq_some_iff,<-him] at h
    obtain⟨⟨p,ta⟩,h1,h2⟩:=h
    obtain rfl:p=_:=h2
    exact⟨ta,h1⟩
   obtain⟨k2,hk2⟩:∃ k2,kk=k2+1:=⟨kk-1,by omega⟩
   have hkb:=HB.out
   obtain⟨dl,hdl⟩:∃ dl,dl=((da.drop gl).take md).length:=⟨_,rfl⟩
   have hdl2:dl=min md (n-gl):=by rw[hdl,List.length_take,List.length_drop,<-HN.out]
   obtain⟨bl,hbl⟩:∃ bl,bl=decide (min (gl+md) da.length=da.length):=⟨_,rfl⟩
   have dbl:((i:Int)==(k2:Int))=bl:=by
    rw[hbl,<-HN.out]
    have h1:=HK.out.2 (i+1)
    rw[Nat.succ_mul,<-him] at h1;rw[Bool.eq_iff_iff,beq_iff_eq,decide_eq_true_eq];omega
   have RC:Hid (∀ M:List At,Reads M (some ⟨go,oo,none⟩) (pcs l)->Cell M go (oo+i*14) (.int .u8 7)/\Cell M go (oo+i*14+4) (.int .u16 9)/\Cell M go (oo+i*14+6) (.int .u32 (gl:Int))/\Cell M go (oo+i*14+1) (.bool bl)/\Cell M go (oo+i*14+2) (.bool false)/\Cell M go (oo+i*14+13) (.slice ta.DA dl ta.dc)):=Lib.hid (fun M hM=>by
    have h:=pcs_row hM hta
    have e6:n32 (BitVec.ofNat 32 gl)=(gl:Int):=by unfold n32;rw[BitVec.toNat_ofNat,Nat.mod_eq_of_lt (by omega)]
    refine⟨h.cell 0 rfl,h.cell 4 rfl,?_,?_,h.cell 2 rfl,?_⟩
    ·have h6:=h.cell 6 (v:=.int .u32 (n32 (BitVec.ofNat 32 gl))) rfl
     rw[e6] at h6;exact h6
    ·have h7:=h.cell 1 (v:=.bool (decide (min (gl+md) da.length=da.length))) rfl
     rw[<-hbl] at h7;exact h7
    ·have h8:=h.cell 13 (v:=.slice ta.DA ((da.drop gl).take md).length ta.dc) rfl
     rw[<-hdl] at h8;exact h8)
   have HD:Hid (∀ N:List At,Reads (N++(.blk g11 98 EV::T2)) ta.DA (((da.drop gl).take md).map v8)):=Lib.hid (fun N=>(HRD.out _ (List.mem_of_getElem? hta) N).2)
   have HDL:=Lib.hid hdl.symm
   have HNX:=Lib.hid (show gl+dl=min ((i+1)*md) n by rw[Nat.succ_mul,<-him];omega)
   have HTK:=Lib.hid (show da.take gl++(da.drop gl).take md=da.take (gl+dl) by
    rw[HNX.out,<-take_snoc da i md n HN.out,<-him,Nat.min_eq_left (by omega)])
   obtain⟨f1,f2,f3⟩:=Su.lt_dec (show i<k by omega)
   have wk2:IntKind.i64.wrap ((k:Int)-2)=(k2:Int):=by rw[IntWalk.i64_in _ (by omega)];omega
   have wgl:IntKind.i64.wrap (gl:Int)=(gl:Int):=IntWalk.i64_in _ (by omega)
   have wi:=IntWalk.i64_in ((i:Int)+1) (by omega)
   have hbd:gl+dl<=1048576:=by omega
   clear hdl hdl2 hbl him him2 hkb hta HGL hk2
   go_wp2_with (first|((with_reducible refine Se.iL 150 ?_);(refine Se.Ld hs rfl rfl ((RC.out _ (Reads.own 1 rfl)).1) ?_))|((with_reducible refine Se.iL 157 ?_);(refine Se.Ld hs rfl rfl ((RC.out _ (Reads.own 1 rfl)).2.1) ?_))|((with_reducible refine Se.iL 165 ?_);(refine Se.Ld hs rfl rfl ((RC.out _ (Reads.own 1 rfl)).2.2.1) ?_))|((with_reducible refine Se.iL 176 ?_);(refine Se.Ld hs rfl rfl ((RC.out _ (Reads.own 1 rfl)).2.2.2.1) ?_))|((with_reducible refine Se.iL 189 ?_);(refine Se.Ld hs rfl rfl ((RC.out _ (Reads.own 1 rfl)).2.2.2.2.1) ?_))|((with_reducible refine Se.iL 196 ?_);(refine Se.Ld hs rfl rfl ((RC.out _ (Reads.own 1 rfl)).2.2.2.2.2) ?_))|((with_reducible refine Se.iL 197 ?_);(refine Se.toL rfl (Se.ap (o:=⟨some 197,_,_,_,_,_⟩) 0 hs rfl rfl rfl rfl (HD.out [_,_]) Tryz.underlying24 Pd.u8i3 rfl (by decide) (v8_one _) (by rw[List.length_map,HDL.out,Nat.mul_one]) (by omega) (by omega) ?_);clear hs;rintro w r2 B2 c2 hs;try simp only[pS] at hs)))
   go_roundg (kk-(i+1))
   case measure=>omega
   case rel =>
    refine⟨i+1,gl+dl,c2,r2,B2,rfl,by omega,rfl,by go_num,HNX,?_⟩;rw[<-HTK.out,List.map_append];exact hs
  ·obtain rfl:i=kk:=by omega
   have hlt':¬ (i:Int)<(i:Int):=by omega
   obtain rfl:gl=n:=by rw[HGL.out];have:=(HK.out.2 i).1 (Nat.le_refl _);omega
   obtain⟨ta,hta⟩:∃ ta,l[i]? = some (({ h:={ k:=5#8 },en:=en }:PDU),ta):=by
    have h:=HL.out
    rw[<-hl.out.1,List.getElem?_map,Option.map_eq_some_iff] at h
    obtain⟨⟨p,ta⟩,h1,h2⟩:=h
    obtain rfl:p=_:=h2
    exact⟨ta,h1⟩
   obtain⟨PX,hPX⟩:∃ PX,PX=pcv (({ h:={ k:=5#8 },en:=en }:PDU),ta):=⟨_,rfl⟩
   have PXL:=Lib.hid (show PX.length=14 by rw[hPX];rfl)
   have PXO:=Lib.hid (show ∀ v∈PX,v.oneCell'=true by rw[hPX];exact pcv_one _)
   have P0:=Lib.hid (show PX[0]? = some (.int .u8 5) by rw[hPX];rfl)
   have P3:=Lib.hid (show PX[3]? = some (.slice ta.EA 16 ta.ec) by rw[hPX];show some (Value.slice ta.EA en.length ta.ec)=_;rw[HEN.out.2])
   have RW:Hid (∀ M:List At,Reads M (some ⟨go,oo,none⟩) (pcs l)->Reads M (some ⟨go,oo+i*14,none⟩) PX):=Lib.hid (fun M hM=>by rw[hPX];exact pcs_row hM hta)
   have HE:Hid (∀ N:List At,Reads (N++(.blk g11 98 EV::T2)) ta.EA (en.map v8)):=Lib.hid (fun N=>(HRD.out _ (List.mem_of_getElem? hta) N).1)
   obtain⟨f1,f2,f3⟩:=Su.lt_dec (show i<k by have:=HB.out;omega)
   have HTK:=Lib.hid (show da.take gl=da by rw[HN.out,List.take_length])
   rw[HTK.out] at hs
   have HEV:Hid (16=en.length/\EV=en.map v8):=Lib.hid ⟨HEN.out.2.symm,HEN.out.1⟩
   clear hta hPX HGL HTK
   go_upto_region 23 with (first|((with_reducible refine Se.iL 203 ?_);(refine Se.Ldw hs rfl rfl (RW.out _ (Reads.own 1 rfl)) (by rw[PXL.out];kernel_rfl) ?_))|((with_reducible refine Se.iL 25 ?_);(refine Se.Al hs rfl (pd_z) ?_;clear hs;rintro w g25-hs))|((with_reducible refine Se.iN ?_);(refine Se.Sow 0 hs rfl rfl rfl rfl (PXO.out) (by rw[PXL.out];kernel_rfl) (by rw[PXL.out];rfl) ?_;clear hs;intro w hs;try simp only[pS] at hs)))
   have SP:Hid (∀ w',St w0 X (.blk g25 65 PX::.own 1 gr GB gl gc (da.map v8)::.own 14 (some go) (some ⟨go,oo,none⟩) k oc (pcs l)::.blk g11 98 EV::T2) w'->Rd w' GB (da.map v8)/\Rd w' A (da.map v8)/\Blk w' g25 PX 65/\Rd w' ta.EA (en.map v8)/\Rd w' (some ⟨g11,0,none⟩) (en.map v8)):=Lib.hid (fun w' h=>⟨(Reads.own 1 rfl) _ h.hold,(HX.out.mono (fun a ha=>List.mem_cons_of_mem _ (List.mem_cons_of_mem _ (List.mem_cons_of_mem _ (List.mem_cons_of_mem _ (HSUB.out.subset ha)))))) _ h.hold,h.hold (.blk g25 65 PX) (by simp),(HE.out [_,_,_]) _ h.hold,by rw[<-HEV.out.2];exact(Reads.blk 3 rfl) _ h.hold⟩)
   refine Ch.region' 26 (fun wx=>Rd wx GB (da.map v8)/\Rd wx A (da.map v8)/\Blk wx g25 PX 65/\Rd wx ta.EA (en.map v8)/\Rd wx (some ⟨g11,0,none⟩) (en.map v8)) (fun|20=>true|23=>true|_=>false) (by kernel_rfl) (by decide +kernel) (SP.out _ hs.drew) ?_;replace hs:=hs.drew;generalize w.drew=w at hs ⊢;change Ch.CW _ _ _ _ _ [0,1,2,3,4,5,6,7,8,9,10,11,12,13,14,15,16,17,18,19,20,21,22,23,24,25] _ _
   iterate 20 ((first|refine Ch.pA ?_|refine Ch.pE (hv:=fun wx hS=>xcv rfl rfl HN.out hS.1 Tryz.underlying24 Tryz.underlying5 Tryz.underlying9) (h:=?_)|refine Ch.pE (hv:=fun wx hS=>xcv rfl rfl HN.out hS.2.1 Tryz.underlying24 Tryz.underlying5 Tryz.underlying9) (h:=?_)|refine Ch.pE (hv:=fun wx hS=>Se.xL (hc:=((hS.2.2.1.cell _).trans P0.out))) (h:=?_)|refine Ch.pE (hv:=fun wx hS=>Se.xL (hc:=((hS.2.2.1.cell _).trans P3.out))) (h:=?_)|refine Ch.pE (hv:=fun wx hS=>xcv rfl rfl HEV.out.1 hS.2.2.2.1 Tryz.underlying24 Tryz.underlying5 Tryz.underlying9) (h:=?_)|refine Ch.pE (hv:=fun wx hS=>xcv rfl rfl HEV.out.1 hS.2.2.2.2 Tryz.underlying24 Tryz.underlying5 Tryz.underlying9) (h:=?_));(try simp only[pU]))
   refine Ch.cA (f:=41) (args:=#[.pointer (some ⟨g,0,none⟩),.int .i64 2,.int .i64 0,.slice none 0 0]) (CI4.out [_,_,_,_] _ hs) ?_;clear hs;rintro e w⟨rfl,hs⟩;refine⟨_,rfl,SP.out _ hs,?_⟩;(try simp only[pU])
   iterate 2 (refine Ch.pA ?_;(try simp only[pU]))
   refine Ch.cA (f:=35) (args:=#[]) (CK.out _ _ hs) ?_;clear hs;rintro e w⟨rfl,hs⟩;refine⟨_,rfl,SP.out _ hs,?_⟩;(try simp only[pU])
   iterate 2 (refine Ch.pA ?_;(try simp only[pU]))
   refine Ch.done ?_
   try simp only[List.drop_succ_cons,List.drop_zero]
   go_wp2_with fail
   go_ret;exact⟨rfl,hs.sub (List.Sublist.cons _ (List.Sublist.cons _ (List.Sublist.cons _ (List.Sublist.cons _ HSUB.out))))⟩
theorem replies_any(r:Rw)(al dg:BitVec 8)(da:Bs){A:Option Addr}{n ca:Nat}(W:World)(hn:n=da.length)(hr:Rd W A (da.map v8))(hc:n<=ca)(mo:Int)(en:Bs)(he:en.length=16):Calls Tryz.prog 10 #[.agg (rwl r).toArray,.int .u8 (n8 al),.int .u8 (n8 dg),.slice A n ca,.int .i64 mo,.agg (en.map v8).toArray] W fun e w'=>e=.returned (.bool true)/\Below W.heap.size W w' :=
 (replies_st (L:=[.rd A (da.map v8)]) (St.start W (by simpa [At.holds] using hr) rfl) r al dg da hn (Reads.rd 0 rfl) hc mo en he).mono fun e w' h=>⟨h.1,h.2.below⟩
end Sn
end Go.Proofs.YtjnllcnknjlmmaaGreat
