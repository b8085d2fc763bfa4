/- Layer 41. -/
import Derived.Test.YtjnllcnknjlmmaaGreatKb07
set_option linter.unusedSimpArgs false
set_option linter.unusedVariables false
set_option maxRecDepth 100000
set_option maxHeartbeats 4000000
namespace Go.Proofs.YtjnllcnknjlmmaaGreat
open Go Go.RowKit
namespace Se
open Li (Rd)
end Se
end Go.Proofs.YtjnllcnknjlmmaaGreat
namespace Go.Proofs.YtjnllcnknjlmmaaGreat
open Go Go.RowKit
namespace Se
open Li (Rd)
end Se
end Go.Proofs.YtjnllcnknjlmmaaGreat
namespace Go.Proofs.YtjnllcnknjlmmaaGreat
namespace Or
open Go Go.RowKit Hv Ch
end Or
end Go.Proofs.YtjnllcnknjlmmaaGreat
namespace Go.Proofs.YtjnllcnknjlmmaaGreat
namespace Lift
open Go Go.ChangeShapes Go.WideShapes Go.ChangeAt Go.RowKit
variable {H:Type} {enc:TypeId × Value->H} {P:Program}
end Lift
end Go.Proofs.YtjnllcnknjlmmaaGreat
namespace Go.Proofs.YtjnllcnknjlmmaaGreat
open Go Go.RowKit
namespace Se
open Li (Rd)
end Se
end Go.Proofs.YtjnllcnknjlmmaaGreat
namespace Go.Proofs.YtjnllcnknjlmmaaGreat
open Go Go.RowKit
namespace Se
open Li (Rd)
end Se
end Go.Proofs.YtjnllcnknjlmmaaGreat
namespace Go.Proofs.YtjnllcnknjlmmaaGreat
open Go Go.ChangeShapes Go.WideShapes Go.ChangeAt Go.RowKit
namespace Lift
variable {P:Program}
end Lift
end Go.Proofs.YtjnllcnknjlmmaaGreat
namespace Go.Proofs.YtjnllcnknjlmmaaGreat
open Go Go.ChangeShapes Go.WideShapes Go.ChangeAt Go.RowKit
namespace Lift
theorem fit_len:∀ {ks:List (Option IntKind)} {vs:List Value},fit ks vs->vs.length=ks.length
 | [],vs,h=>by
  have:vs=[]:=h
  subst this;rfl
 | k::ks,vs,h=>by
  obtain⟨v,us,rfl,_,h⟩:=h
  simp[fit_len h]
theorem flatten_len{α:Type}{k:Nat}:∀ (l:List (List α)),(∀ x∈l,x.length=k)->l.flatten.length=l.length*k
 | [],_=>by simp
 | x::l,h=>by
  rw[List.flatten_cons,List.length_append,h x List.mem_cons_self,flatten_len l fun y hy=>h y (List.mem_cons_of_mem _ hy),List.length_cons,Nat.succ_mul,Nat.add_comm]
theorem flatten_get{α:Type}{k:Nat}:∀ (l:List (List α)) (i j:Nat) (hi:i<l.length),j<k->(∀ x∈l,x.length=k)->l.flatten[i*k+j]? = (l[i])[j]?
 | [],_,_,hi,_,_=>by simp at hi
 | x::l,0,j,_,hj,h=>by
  rw[List.flatten_cons,Nat.zero_mul,Nat.zero_add,List.getElem?_append_left (by rw[h x List.mem_cons_self];exact hj)]
  rfl
 | x::l,i+1,j,hi,hj,h=>by
  have hx:=h x List.mem_cons_self
  rw[List.flatten_cons,List.getElem?_append_right (by rw[hx,Nat.succ_mul];omega),hx];rw[show(i+1)*k+j-k=i*k+j by rw[Nat.succ_mul];omega];exact flatten_get l i j (by simpa using hi) hj fun y hy=>h y (List.mem_cons_of_mem _ hy)
theorem open_flats{H:Type}{enc:TypeId × Value->H}{P:Program}{W:World}{r:Reach}{base:Nat}{t e:TypeId}{v:Value}{d:DataW H}{p:List MemPlace}{ks:List (Option IntKind)}(n:Nat)(ht:P.underlying t=some (.slice e))(hk:fk P n e=some ks)(hc:P.cellsOf e=ks.length)(h0:0<ks.length)(hv:Value.okWide P W r base t v)
  (h:DataW.Trod enc P W 0 (fun _=>true) true t v d p):∃ A m c,∃ l:List (List Value),v=.slice A m c/\m=l.length/\Li.Rd W A l.flatten/\∀ x∈l,fit ks x:=by
 obtain⟨A,m,c,rfl⟩:=okWide_slice ht hv
 obtain⟨fuel,hf⟩:=h
 rcases Go.Deep.open_slice ht hf with ⟨hcs,_⟩|⟨a,len,cap,M,n',D,Pl,hcs,_,hl,hm,hM,_,hall⟩
 ·simp[Value.cells] at hcs
  obtain⟨rfl,rfl,rfl⟩:=hcs
  exact⟨none,0,0,[],rfl,rfl,.inl rfl,by simp⟩
 ·simp[Value.cells] at hcs
  obtain⟨rfl,rfl,rfl⟩:=hcs
  simp only[if_true] at hM
  obtain⟨C,hC⟩:=Go.Deep.choose_lt (α:=List Value) (p:=fun i cs=>W.cells? 0 (a.add (i*P.cellsOf e)) (P.cellsOf e)=some cs/\fit ks cs) (n:=m) (fun i hi=>by
   obtain⟨cs,h1,h2⟩:=hall i (by omega)
   exact⟨cs,h1,fit_of n hk h2⟩)
  refine⟨some a,m,c,(List.range m).map C,rfl,by simp,?_,?_⟩
  ·by_cases hz:m=0
   ·subst hz;exact .inl (by simp)
   ·obtain⟨b,off,spot⟩:=a
    have hlen:∀ x∈(List.range m).map C,x.length=ks.length:=fun x hx=>by
     obtain⟨i,hi,rfl⟩:=List.mem_map.1 hx
     exact fit_len (hC i (List.mem_range.1 hi)).2
    have cell:∀ i,i<m->∀ j,j<ks.length->W.cell? (Addr.add ⟨b,off,spot⟩ (i*ks.length+j))=(C i)[j]?:=fun i hi j hj=>by
     have h1:=(World.cells?_some (hC i hi).1).2.2 j (by rw[hc];exact hj)
     rw[hc] at h1
     have e:(Addr.add ⟨b,off,spot⟩ (i*ks.length)).add j=Addr.add ⟨b,off,spot⟩ (i*ks.length+j):=by
      generalize i*ks.length=u
      by_cases hu:u=0 <;> by_cases hv:j=0 <;> simp[Addr.add,hu,hv,Nat.add_assoc]
     rwa [e] at h1
    have hspot:spot=none:=by
     have h1:=cell 0 (by omega) 0 h0
     have h2:=fit_len (hC 0 (by omega)).2
     rw[List.getElem?_eq_getElem (by omega)] at h1;simpa [Addr.add] using World.cell?_spot h1
    subst hspot;refine .inr ⟨b,off,rfl,fun q hq=>?_⟩
    have hfl:((List.range m).map C).flatten.length=m*ks.length:=by
     have:=flatten_len _ hlen
     simpa using this
    rw[hfl] at hq
    have hi:q / ks.length<m:=Nat.div_lt_of_lt_mul (by rw[Nat.mul_comm];exact hq)
    have hj:q%ks.length<ks.length:=Nat.mod_lt _ h0
    have hq2:q / ks.length*ks.length+q%ks.length=q:=by rw[Nat.mul_comm];exact Nat.div_add_mod _ _
    have h1:=cell _ hi _ hj
    rw[hq2,Addr.add_lit] at h1;rw[h1]
    have h2:=flatten_get ((List.range m).map C) (q / ks.length) (q%ks.length) (by simpa using hi) hj hlen
    rw[hq2] at h2;rw[h2];simp
  ·intro x hx
   obtain⟨i,hi,rfl⟩:=List.mem_map.1 hx
   exact(hC i (List.mem_range.1 hi)).2
end Lift
end Go.Proofs.YtjnllcnknjlmmaaGreat
namespace Go.Proofs.YtjnllcnknjlmmaaGreat
open Go Go.RowKit
namespace Se
open Li (Rd)
end Se
end Go.Proofs.YtjnllcnknjlmmaaGreat
namespace Go.Proofs.YtjnllcnknjlmmaaGreat
namespace Gd
open Go Go.RowKit Hv Ch
end Gd
end Go.Proofs.YtjnllcnknjlmmaaGreat
namespace Go.Proofs.YtjnllcnknjlmmaaGreat
open Go Go.RowKit
namespace Se
open Li (Rd)
end Se
namespace Ch
open Go Go.RowKit Hv Ch
end Ch
namespace Hv
end Hv
namespace Or
open Go Go.RowKit Hv Ch
end Or
namespace Gd
open Go Go.RowKit Hv Ch
end Gd
end Go.Proofs.YtjnllcnknjlmmaaGreat
namespace Go.Proofs.YtjnllcnknjlmmaaGreat
open Go Go.RowKit
namespace Sn
theorem ent_desc1(c:Cf)(id:BitVec 16){n:Nat}(h:n<=1048576):descE c (entE 1#8 id n 90#8) 0=(n,true)/\dirE (entE 1#8 id n 90#8)=1:=by
 obtain⟨h1,h2,h3,h4⟩:=ent_zer 1#8 id n 90#8
 have hl:=ent_len 1#8 id n 90#8 (by omega)
 have hd:dirE (entE 1#8 id n 90#8)=1:=by unfold dirE;rw[h4];rfl
 refine⟨?_,hd⟩;unfold descE;rw[h1,h2,hl,hd,h3,decide_eq_false (by omega)]
 rfl
theorem outZ_tx{s:Ss}{id:BitVec 16}{n:Tx}(ht:s.tx=[(id,n)])(hr:s.rp=[]):outZ s=[Bv.n16 id]:=by
 unfold outZ outE;rw[ht,hr];simp
end Sn
end Go.Proofs.YtjnllcnknjlmmaaGreat
namespace Go.Proofs.YtjnllcnknjlmmaaGreat
open Go Go.RowKit
namespace Sn
open Pd (PDU valid)
theorem v_data(id tg:BitVec 16)(of:BitVec 32)(la:Bool){da:Bs}(h1:0<da.length)(h2:da.length<=1048576):valid { h:={ k:=6#8,id:=id,tg:=tg,of:=of,la:=la },da:=da }=true:=by
 unfold valid Pd.only Pd.own;simp[Pd.hdr,Pd.most,h1,h2]
theorem v_ready(id tg:BitVec 16)(of:BitVec 32){ln:BitVec 32}(h:0<ln.toNat):valid { h:={ k:=9#8,id:=id,tg:=tg,of:=of,ln:=ln } }=true:=by
 unfold valid Pd.only Pd.own;simp[Pd.hdr,Pd.most,h]
def wrP(id:BitVec 16)(n:Nat):PDU:={ h:={ k:=4#8 },en:=entE 1#8 id n 90#8 }
theorem wr_valid(id:BitVec 16)(n:Nat):valid (wrP id n)=true:=v_cmd (entK_len _ _ _ _ 4) (Nat.zero_le _)
theorem putA_one{α:Type}(k:BitVec 16)(u v:α):putA [(k,u)] k v=[(k,v)]:=by unfold putA;simp
end Sn
end Go.Proofs.YtjnllcnknjlmmaaGreat
namespace Go.Proofs.YtjnllcnknjlmmaaGreat
open Go Go.RowKit
namespace Sn
open Pd (PDU encE enc valid)
def txE(n:Nat)(da:Bs)(a e:Nat):Tx:=⟨entE 1#8 300#16 n 90#8,0#16,n,da.take a,e⟩
def rdyP(a e:Nat):PDU:={ h:={ k:=9#8,id:=300#16,tg:=0#16,of:=BitVec.ofNat 32 a,ln:=BitVec.ofNat 32 (e-a) } }
def hdP(da:Bs)(a m e:Nat):PDU:={ h:={ k:=6#8,id:=300#16,tg:=0#16,of:=BitVec.ofNat 32 a,la:=decide (a+m=e) },da:=(da.drop a).take m }
theorem rdy_valid{a e:Nat}(h:a<e)(he:e<=1048576):valid (rdyP a e)=true:=v_ready _ _ _ (by rw[BitVec.toNat_ofNat];omega)
theorem hd_valid{da:Bs}{a m e:Nat}(h1:1<=m)(h2:a+m<=da.length)(h3:m<=1048576):valid (hdP da a m e)=true:=v_data _ _ _ _ (by rw[List.length_take,List.length_drop];omega) (by rw[List.length_take,List.length_drop];omega)
theorem ask_send{c:Cf}{al dg:BitVec 8}{s:Ss}(h:Lv c al dg s)(h1:al.toNat<=31){a e:Nat}(hae:a<e)(he:e<=1048576):(encE (rdyP a e) s.f).1=enc (rdyP a e) (lfE c al dg):=by
 rw[h.f];exact encE_eq (framed_lf h1) (rdy_valid hae he)
theorem lv_write{c:Cf}{al dg:BitVec 8}{s:Ss}(h:Lv c al dg s)(hc:c.ok)(ha:al.toNat<=31)(ht:s.tx=[])(hr:s.rp=[]){n:Nat}(h1:1<=n)(hn:n<=1048576)(da:Bs) :
  ∃ t,feedE s (enc (wrP 300#16 n) (owE c dg))=(t,[],0)/\Lv c al dg t/\t.tx=[(300#16,txE n da 0 (min c.tr n))]/\t.rp=[]/\t.out=s.out++enc (rdyP 0 (min c.tr n)) (lfE c al dg)/\t.r.nb<=s.r.nb+2097152/\t.r.np=s.r.np+1:=by
 have hle:=enc_le (framed_fm (d:=digE c dg) hc.al) (wr_valid 300#16 n)
 have h0:=hc.t1
 obtain⟨d1,d2⟩:=ent_desc1 c 300#16 hn
 obtain⟨-,-,e3,-⟩:=ent_zer 1#8 300#16 n 90#8
 obtain⟨s0,hs0⟩:∃ s0:Ss,s0={ s with r:=eatR s.r (enc (wrP 300#16 n) (owE c dg)).length,rd:=[] }:=⟨_,rfl⟩
 have hC:commandE s0 (wrP 300#16 n)={ s0 with tx:=[(300#16,txE n da 0 (min c.tr n))],out:=s0.out++enc (rdyP 0 (min c.tr n)) (lfE c al dg) }:=by
  have q1:s0.tx=[]:=by rw[hs0];exact ht
  have q2:s0.rp=[]:=by rw[hs0];exact hr
  have q3:s0.c=c:=by rw[hs0];exact h.c
  have q4:s0.f=s.f:=by rw[hs0]
  unfold commandE;rw[show(wrP 300#16 n).en=entE 1#8 300#16 n 90#8 from rfl,show(wrP 300#16 n).da=[] from rfl,q1,q2,getA_nil,getA_nil,ent_id,ent_len _ _ _ _ (by omega)];rw[q3,if_neg (by simp),if_neg (by have:=hc.o1;simp only[List.length_nil];omega),show([]:Bs).length=0 from rfl,d1,if_neg (by simp),d2,e3,if_pos ⟨rfl,rfl,by omega⟩]
  show askE s0 300#16 ⟨entE 1#8 300#16 n 90#8,tagE [] 1 0#16,n,[],0⟩=_
  unfold askE sendE;rw[q1,q3]
  have hz:=ask_send h ha (a:=0) (e:=min c.tr n) (by omega) (by omega)
  have e5:min (([]:Bs).length+c.tr) n=min c.tr n:=by rw[List.length_nil,Nat.zero_add]
  simp only[e5,q2];rw[<-q4] at hz;rw[<-hz]
  rfl
 have hH:handleE s0 (wrP 300#16 n)={ s0 with tx:=[(300#16,txE n da 0 (min c.tr n))],out:=s0.out++enc (rdyP 0 (min c.tr n)) (lfE c al dg) }:=by
  have q5:s0.st=2:=by rw[hs0];exact h.st
  unfold handleE;rw[if_neg (fun hh=>absurd hh.1 (by rw[q5];decide)),if_pos ⟨q5,rfl⟩,hC]
 rw[hs0] at hH;refine⟨_,lv_feed h hc.al (wr_valid 300#16 n) hH rfl,⟨h.c,h.st,h.re,h.f,h.rf,h.re0,rfl,h.rm⟩,rfl,hr,rfl,?_,rfl⟩;exact Nat.add_le_add_left hle _
theorem take_more(da:Bs)(a m:Nat):da.take a++(da.drop a).take m=da.take (a+m):=by rw[List.take_add]
def TrR(c:Cf)(al dg:BitVec 8)(da:Bs)(a e:Nat)(o:Bs)(t:Ss):Prop :=
 (a=da.length->t.tx=[]/\t.rp=[(300#16,0)]/\t.out=o) /\
 (a<da.length->a=e->t.tx=[(300#16,txE da.length da a (min (a+c.tr) da.length))]/\t.rp=[]/\t.out=o++enc (rdyP a (min (a+c.tr) da.length)) (lfE c al dg)) /\
 (a<da.length->a<e->t.tx=[(300#16,txE da.length da a e)]/\t.rp=[]/\t.out=o)
theorem lv_data{c:Cf}{al dg:BitVec 8}{s:Ss}(h:Lv c al dg s)(hc:c.ok)(ha:al.toNat<=31){da:Bs}{a m e:Nat}(ht:s.tx=[(300#16,txE da.length da a e)])(hr:s.rp=[])(h1:1<=m)(h2:a+m<=e)(h3:e<=da.length)(h4:m<=c.md)(hn:da.length<=1048576) :
  ∃ t,feedE s (enc (hdP da a m e) (owE c dg))=(t,if a+m=da.length then [⟨300#16,entE 1#8 300#16 da.length 90#8,da,0⟩] else [],0)/\Lv c al dg t/\TrR c al dg da (a+m) e s.out t/\t.r.nb<=s.r.nb+2097152/\t.r.np=s.r.np+1:=by
 have hmd:=hc.md
 have htr:=hc.t1
 have hv:=hd_valid (da:=da) (a:=a) (m:=m) (e:=e) h1 (by omega) (by omega)
 have hle:=enc_le (framed_fm (d:=digE c dg) hc.al) hv
 have hla:(da.take a).length=a:=by rw[List.length_take];omega
 have hlm:((da.drop a).take m).length=m:=by rw[List.length_take,List.length_drop];omega
 obtain⟨s0,hs0⟩:∃ s0:Ss,s0={ s with r:=eatR s.r (enc (hdP da a m e) (owE c dg)).length,rd:=[] }:=⟨_,rfl⟩
 have q1:s0.tx=[(300#16,txE da.length da a e)]:=by rw[hs0];exact ht
 have q2:s0.rp=[]:=by rw[hs0];exact hr
 have q3:s0.c=c:=by rw[hs0];exact h.c
 have q4:s0.f=s.f:=by rw[hs0]
 have q5:s0.st=2:=by rw[hs0];exact h.st
 have q6:s0.rd=[]:=by rw[hs0]
 have hH0:handleE s0 (hdP da a m e)=dataE s0 (hdP da a m e):=by
  unfold handleE;rw[if_neg (fun hh=>absurd hh.1 (by rw[q5];decide)),if_neg (fun hh=>absurd (show(6#8:BitVec 8)=4#8 from hh.2) (by decide)),if_pos ⟨q5,rfl⟩]
 have hD:dataE s0 (hdP da a m e)=if a+m=da.length then requestE { s0 with tx:=[] } 300#16 (entE 1#8 300#16 da.length 90#8) da 0 else if a+m=e then askE { s0 with tx:=[(300#16,txE da.length da (a+m) e)] } 300#16 (txE da.length da (a+m) e) else { s0 with tx:=[(300#16,txE da.length da (a+m) e)] }:=by
  unfold dataE;rw[show(hdP da a m e).h.id=300#16 from rfl,q1,getA_one]
  show(if (0#16:BitVec 16)≠0#16 then _ else if s0.c.md<((da.drop a).take m).length\/(BitVec.ofNat 32 a).toNat≠(da.take a).length\/e<(da.take a).length+((da.drop a).take m).length\/decide (a+m=e)≠decide ((da.take a).length+((da.drop a).take m).length=e) then _ else if (da.take a).length+((da.drop a).take m).length=da.length then requestE { s0 with tx:=delA (putA [(300#16,txE da.length da a e)] 300#16 { txE da.length da a e with da:=da.take a++(da.drop a).take m }) 300#16 } 300#16 (entE 1#8 300#16 da.length 90#8) (da.take a++(da.drop a).take m) 0 else if (da.take a).length+((da.drop a).take m).length=e then askE { s0 with tx:=putA [(300#16,txE da.length da a e)] 300#16 { txE da.length da a e with da:=da.take a++(da.drop a).take m } } 300#16 { txE da.length da a e with da:=da.take a++(da.drop a).take m } else { s0 with tx:=putA [(300#16,txE da.length da a e)] 300#16 { txE da.length da a e with da:=da.take a++(da.drop a).take m } })=_
  rw[if_neg (by simp),hla,hlm,q3,if_neg (by rw[BitVec.toNat_ofNat];simp;omega),putA_one,delA_one,take_more]
  by_cases h5:a+m=da.length
  ·rw[if_pos h5,if_pos h5,h5,List.take_length]
  ·rw[if_neg h5,if_neg h5]
   rfl
 by_cases h5:a+m=da.length
 ·rw[if_pos h5] at hD
  rw[if_pos h5]
  have hH:handleE s0 (hdP da a m e)={ s0 with tx:=[],rp:=[(300#16,0)],rd:=[⟨300#16,entE 1#8 300#16 da.length 90#8,da,0⟩] }:=by
   rw[hH0,hD];unfold requestE;simp only[q2,q6]
   rfl
  rw[hs0] at hH;refine⟨_,lv_feed h hc.al hv hH rfl,⟨h.c,h.st,h.re,h.f,h.rf,h.re0,rfl,h.rm⟩,⟨fun _=>⟨rfl,rfl,rfl⟩,fun h6=>absurd h6 (by omega),fun h6=>absurd h6 (by omega)⟩,Nat.add_le_add_left hle _,rfl⟩
 ·rw[if_neg h5] at hD
  rw[if_neg h5]
  by_cases h6:a+m=e
  ·rw[if_pos h6] at hD
   have hz:=ask_send h ha (a:=a+m) (e:=min (a+m+c.tr) da.length) (by omega) (by omega)
   rw[<-q4] at hz
   have hH:handleE s0 (hdP da a m e)={ s0 with tx:=[(300#16,txE da.length da (a+m) (min (a+m+c.tr) da.length))],out:=s0.out++enc (rdyP (a+m) (min (a+m+c.tr) da.length)) (lfE c al dg) }:=by
    rw[hH0,hD];unfold askE sendE
    have e5:(txE da.length da (a+m) e).da.length=a+m:=by show(da.take (a+m)).length=_;rw[List.length_take];omega
    simp only[e5,q3];rw[<-hz,show(txE da.length da (a+m) e).ln=da.length from rfl];simp only[putA_one]
    rfl
   rw[hs0] at hH;refine⟨_,lv_feed h hc.al hv hH rfl,⟨h.c,h.st,h.re,h.f,h.rf,h.re0,rfl,h.rm⟩,⟨fun h7=>absurd h7 h5,fun _ _=>⟨rfl,hr,rfl⟩,fun _ h7=>absurd h7 (by omega)⟩,Nat.add_le_add_left hle _,rfl⟩
  ·rw[if_neg h6] at hD
   have hH:handleE s0 (hdP da a m e)={ s0 with tx:=[(300#16,txE da.length da (a+m) e)] }:=by rw[hH0,hD]
   rw[hs0] at hH;refine⟨_,lv_feed h hc.al hv hH rfl,⟨h.c,h.st,h.re,h.f,h.rf,h.re0,rfl,h.rm⟩,⟨fun h7=>absurd h7 h5,fun _ h7=>absurd h7 h6,fun _ _=>⟨rfl,hr,rfl⟩⟩,Nat.add_le_add_left hle _,rfl⟩
end Sn
end Go.Proofs.YtjnllcnknjlmmaaGreat
namespace Go.Proofs.YtjnllcnknjlmmaaGreat
open Go Go.ChangeShapes Go.WideShapes Go.ChangeAt Go.RowKit
namespace Sn
open Li (Rd)
open Bv (n16)
variable {W:World} {base:Nat} {v:Value}
variable {H:Type} {enc:TypeId × Value->H} {r:Reach} {d:DataW H} {p:List MemPlace}
theorem u16s_of:∀ {l:List (List Value)},(∀ x∈l,Lift.fit [some .u16] x)->∃ zs:List (BitVec 16),l.flatten=zs.map (fun z=>.int .u16 (n16 z))/\l.length=zs.length
 | [],_=>⟨[],rfl,rfl⟩
 | x::l,h=>by
  obtain⟨zs,h1,h2⟩:=u16s_of (fun y hy=>h y (List.mem_cons_of_mem _ hy))
  obtain⟨_,_,hx,⟨z,rfl,hz⟩,h5⟩:=h x List.mem_cons_self
  obtain rfl:=h5
  subst hx
  have hz:0<=z/\z<=65535:=by simpa [Lit.wf,IntKind.min,IntKind.max,IntKind.signed,IntKind.bits] using hz
  refine⟨BitVec.ofInt 16 z::zs,?_,by rw[List.length_cons,List.length_cons,h2]⟩;rw[List.flatten_cons,h1]
  have e:n16 (BitVec.ofInt 16 z)=z:=by unfold n16;rw[BitVec.toNat_ofInt];simp;omega
  rw[List.map_cons,e]
  rfl
theorem open_u16s(hv:Value.okWide Tryz.prog W r base 26 v)(h:DataW.Trod enc Tryz.prog W 0 (fun _=>true) true 26 v d p) :
  ∃ A n c,∃ zs:List (BitVec 16),v=.slice A n c/\n=zs.length/\Rd W A (zs.map fun z=>.int .u16 (n16 z)):=by
 obtain⟨A,m,c,l,rfl,hm,hr,hf⟩:=Lift.open_flats (ks:=[some .u16]) 2 Tryz.underlying26 (by kernel_rfl) (by kernel_rfl) (by decide) hv h
 obtain⟨zs,h1,h2⟩:=u16s_of hf
 rw[h1] at hr;exact⟨A,m,c,zs,rfl,hm.trans h2,hr⟩
end Sn
end Go.Proofs.YtjnllcnknjlmmaaGreat
